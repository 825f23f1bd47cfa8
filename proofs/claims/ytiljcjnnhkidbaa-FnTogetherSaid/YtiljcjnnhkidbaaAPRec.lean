/- What is right, said plainly of rings, bundles, members and daemons. -/
import Derived.Test.YtiljcjnnhkidbaaAPRight
set_option linter.unusedSimpArgs false
set_option linter.unusedVariables false
namespace Go.TM
open Go
abbrev MemL : Type := List (Int × Unit)
abbrev TokR : Type := Int × Int × Int × Int × Int × MemL × Unit
abbrev MatR : Type := Int × Int × MemL × ItemL × MemL × (List (ByteArray × Unit)) × Int × Int × Int × Int × Int × Int × Int × Int × Int × MemL × Unit
def MemP (xs : MemL) (n : Nat) : Prop := ∀ k (h : k < xs.length), k < n → (1 ≤ xs[k].1 ∧ xs[k].1 ≤ 5) ∧ ∀ h0 : 0 < k, xs[k - 1].1 < xs[k].1
def RingP (c : Int) (xs : MemL) : Prop := (1 ≤ c ∧ c ≤ 9) ∧ (1 ≤ xs.length ∧ xs.length ≤ 5) ∧ MemP xs xs.length
noncomputable def itemsB (xs : ItemL) : Bool := match spec_ItemsOk xs with | some x => x.1 | none => false
theorem items_ok (xs : ItemL) (h : xs.length ≤ 1048576) : spec_ItemsOk xs = some (itemsB xs, ()) ∧ impl_ItemsOk xs = some (itemsB xs, ()) ∧ (itemsB xs = true ↔ ItemsP xs xs.length) := by
 obtain ⟨b, h1, h2, h3⟩ := items_iff xs h; have : itemsB xs = b := by unfold itemsB; rw [h1]
 rw [this]; exact ⟨h1, h2, h3⟩
def Blank (t : TokR) : Prop := t.1 = 0 ∧ t.2.1 = 0 ∧ t.2.2.1 = 0 ∧ t.2.2.2.1 = 0 ∧ t.2.2.2.2.1 = 0 ∧ t.2.2.2.2.2.1 = []
def TokQ (t : TokR) : Prop := TokP t.1 t.2.1 t.2.2.1 t.2.2.2.1 t.2.2.2.2.1 t.2.2.2.2.2.1
noncomputable def aruOf (xs : ItemL) : Nat := match spec_AruOf xs with | some x => x.1.toNat | none => 0
theorem aru_ok (xs : ItemL) (h : xs.length ≤ 1048576) : spec_AruOf xs = some (((aruOf xs : Nat) : Int), ()) ∧ impl_AruOf xs = some (((aruOf xs : Nat) : Int), ()) ∧ IsAru xs (aruOf xs) := by
 obtain ⟨n, h1, h2, h3⟩ := aru_same xs h; have : aruOf xs = n := by unfold aruOf; rw [h1]; rfl
 rw [this]; exact ⟨h1, h2, h3⟩
structure MatQ (m : MatR) : Prop where
 ring : RingP m.2.1 m.2.2.1
 mem : (m.1, ()) ∈ m.2.2.1
 items : ItemsP m.2.2.2.1 m.2.2.2.1.length
 texts : m.2.2.2.2.2.1.length ≤ 20 ∧ m.2.2.2.2.1.length = m.2.2.2.2.2.1.length
 lev : LevOk m.2.2.2.2.1 m.2.2.2.2.1.length
 short : ShortOk m.2.2.2.2.2.1 m.2.2.2.2.2.1.length
 round : 0 ≤ m.2.2.2.2.2.2.1 ∧ m.2.2.2.2.2.2.1 ≤ 1000000000
 seen : 0 ≤ m.2.2.2.2.2.2.2.1 ∧ m.2.2.2.2.2.2.2.1 ≤ 60
 line : 0 ≤ m.2.2.2.2.2.2.2.2.1 ∧ m.2.2.2.2.2.2.2.2.1 ≤ ((aruOf m.2.2.2.1 : Nat) : Int)
 heard : 0 ≤ m.2.2.2.2.2.2.2.2.2.1 ∧ m.2.2.2.2.2.2.2.2.2.1 ≤ ((aruOf m.2.2.2.1 : Nat) : Int)
 last : Blank (m.2.2.2.2.2.2.2.2.2.2.1, m.2.2.2.2.2.2.2.2.2.2.2.1, m.2.2.2.2.2.2.2.2.2.2.2.2.1, m.2.2.2.2.2.2.2.2.2.2.2.2.2.1, m.2.2.2.2.2.2.2.2.2.2.2.2.2.2.1, m.2.2.2.2.2.2.2.2.2.2.2.2.2.2.2.1, ()) ∨ TokQ (m.2.2.2.2.2.2.2.2.2.2.1, m.2.2.2.2.2.2.2.2.2.2.2.1, m.2.2.2.2.2.2.2.2.2.2.2.2.1, m.2.2.2.2.2.2.2.2.2.2.2.2.2.1, m.2.2.2.2.2.2.2.2.2.2.2.2.2.2.1, m.2.2.2.2.2.2.2.2.2.2.2.2.2.2.2.1, ())
end Go.TM
