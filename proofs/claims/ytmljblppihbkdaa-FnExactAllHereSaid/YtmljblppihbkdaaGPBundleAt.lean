/- The first right bundle of a daemon for a ring; those who go on together. -/
import Derived.Test.YtmljblppihbkdaaGPItems
set_option linter.unusedSimpArgs false
set_option linter.unusedVariables false
namespace Go.TM
open Go

theorem bundle_same (a b c : Int) (xs : List (Int × Int × Int × ByteArray × Unit)) (h : xs.length ≤ 1048576) : ∃ x, spec_BundleOk a b c xs = some (x, ()) ∧ impl_BundleOk a b c xs = some (x, ()) := by
  obtain ⟨y, h1, h2⟩ := items_same xs h
  unfold spec_BundleOk impl_BundleOk
  simp only [in_eq, in_eq', daemon_eq, Option.bind_some, h1, h2]
  cases (decide (1 ≤ a) && decide (a ≤ 5))
  · exact ⟨_, rfl, rfl⟩
  cases (decide (1 ≤ b) && decide (b ≤ 9))
  · exact ⟨_, rfl, rfl⟩
  cases (decide (0 ≤ c) && decide (c ≤ IntKind.i64.wrap (b - 1)))
  · exact ⟨_, rfl, rfl⟩
  cases y
  · exact ⟨_, rfl, rfl⟩
  cases decide (0 < c)
  · exact ⟨_, rfl, rfl⟩
  · exact ⟨_, rfl, rfl⟩

abbrev BunR : Type := Int × Int × Int × ItemL × Unit
/-- Is a bundle right? -/
noncomputable def bunOk (b : BunR) : Bool := match spec_BundleOk b.1 b.2.1 b.2.2.1 b.2.2.2.1 with | some x => x.1 | none => false
theorem bunOk_spec (b : BunR) (h : b.2.2.2.1.length ≤ 1048576) : spec_BundleOk b.1 b.2.1 b.2.2.1 b.2.2.2.1 = some (bunOk b, ()) ∧ impl_BundleOk b.1 b.2.1 b.2.2.1 b.2.2.2.1 = some (bunOk b, ()) := by
  obtain ⟨x, h1, h2⟩ := bundle_same b.1 b.2.1 b.2.2.1 b.2.2.2.1 h
  have : bunOk b = x := by unfold bunOk; rw [h1]
  rw [this]
  exact ⟨h1, h2⟩
theorem buns_len (xs : List BunR) {k : Nat} (hk : k < xs.length) (h : xs.length + wl W_iiiLiiisE xs ≤ 1048576) : xs[k].2.2.2.1.length ≤ 1048576 := by
  have hw := wl_mem W_iiiLiiisE xs xs[k] (List.getElem_mem hk)
  have : W_iiiLiiisE xs[k] = List.length xs[k].2.2.2.1 + wl W_iiis xs[k].2.2.2.1 := rfl
  omega

noncomputable def bunAt (xs : List BunR) (c id : Int) : Option BunR := xs.find? fun b => decide (b.1 = id) && (decide (b.2.1 = c) && bunOk b)
abbrev bunOut : Option BunR → Int × Int × Int × ItemL × Bool × Unit
  | none => (0, 0, 0, [], false, ())
  | some b => (b.1, b.2.1, b.2.2.1, b.2.2.2.1, true, ())
def bunEnd : Option BunR → Sum (Int × Int × Int × ItemL × Unit) (Int × Int × Int × ItemL × Bool × Unit)
  | none => .inl (0, 0, 0, [], ())
  | some b => .inr (bunOut (some b))

theorem bun_drop (xs : List BunR) (c id : Int) {k : Nat} (hk : k < xs.length) : bunAt (xs.drop k) c id = if (decide (xs[k].1 = id) && (decide (xs[k].2.1 = c) && bunOk xs[k])) = true then some xs[k] else bunAt (xs.drop (k + 1)) c id := by
  unfold bunAt
  rw [List.drop_eq_getElem_cons hk, List.find?_cons]
  cases (decide (xs[k].1 = id) && (decide (xs[k].2.1 = c) && bunOk xs[k])) <;> rfl
theorem bunAt_mem {xs : List BunR} {c id : Int} {b : BunR} (h : bunAt xs c id = some b) : b ∈ xs ∧ b.1 = id ∧ b.2.1 = c ∧ bunOk b = true := by
  unfold bunAt at h
  have := List.find?_some h
  simp only [Bool.and_eq_true, decide_eq_true_eq] at this
  exact ⟨List.mem_of_find?_eq_some h, this⟩

theorem first_spec (r0c0 : Int) (r0c1 : List (Int × Unit)) (xs : List BunR) (id : Int) (h : xs.length + wl W_iiiLiiisE xs ≤ 1048576) : spec_l13First r0c0 r0c1 xs id = some (bunOut (bunAt xs r0c0 id)) := by
  have hl := loop_ind (round := spec_l13First_r0) (n := xs.length) (fun k => (xs, id, r0c0, r0c1, (0 : Int), (0 : Int), (0 : Int), [], ((k : Nat) : Int), ())) (fun k => some (bunEnd (bunAt (xs.drop k) r0c0 id)))
    ⟨.inl (0, 0, 0, [], ()), by simp only [spec_l13First_r0, spec_l13First_c0, lt_nat_irr, cond_false], by rw [List.drop_length]; rfl⟩ (fun k hk => by
      have hb := (bunOk_spec xs[k] (buns_len xs hk h)).1
      rw [bun_drop xs r0c0 id hk]
      simp only [spec_l13First_r0, spec_l13First_c0, lt_nat_true hk, zero_le_nat, cond_true, toNat_nat, List.getElem?_eq_getElem hk, Option.bind_some, hb, succ_wrap (show k < 4611686018427387904 by omega)]
      cases decide (xs[k].1 = id)
      · exact .inr ⟨rfl, rfl⟩
      cases decide (xs[k].2.1 = r0c0)
      · exact .inr ⟨rfl, rfl⟩
      cases bunOk xs[k]
      · exact .inr ⟨rfl, rfl⟩
      · exact .inl ⟨_, rfl, rfl⟩) 0 (Nat.zero_le _)
  unfold spec_l13First
  have hl : loopV spec_l13First_r0 (xs, id, r0c0, r0c1, (0 : Int), (0 : Int), (0 : Int), [], (0 : Int), ()) = _ := hl
  rw [hl, List.drop_zero]
  cases bunAt xs r0c0 id <;> rfl
/-- Those who go on together with one, said once. -/
noncomputable def withStep (xs : List BunR) (c id : Int) (mine : BunR) (out : List (Int × Unit)) (d : Int) : List (Int × Unit) :=
  match bunAt xs c d with
  | none => out
  | some b => if (d = id ∨ (b.2.2.1 = mine.2.2.1 ∧ 0 < b.2.2.1)) ∧ (d, ()) ∉ out then out ++ [(d, ())] else out
theorem withStep_len (xs : List BunR) (c id : Int) (mine : BunR) (out : List (Int × Unit)) (d : Int) : (withStep xs c id mine out d).length ≤ out.length + 1 := by
  unfold withStep
  split
  · omega
  · split
    · simp
    · omega
noncomputable def withOf (xs : List BunR) (c : Int) (ms : List (Int × Unit)) (id : Int) : List (Int × Unit) :=
  match bunAt xs c id with
  | none => []
  | some mine => ms.foldl (fun out m => withStep xs c id mine out m.1) []
theorem fold_take {α β : Type} (f : β → α → β) (b : β) (xs : List α) {k : Nat} (hk : k < xs.length) : (xs.take (k + 1)).foldl f b = f ((xs.take k).foldl f b) xs[k] := by
  rw [List.take_succ_eq_append_getElem hk, List.foldl_append]
  rfl
theorem withFold_len (xs : List BunR) (c id : Int) (mine : BunR) (ms : List (Int × Unit)) (out : List (Int × Unit)) : (ms.foldl (fun out m => withStep xs c id mine out m.1) out).length ≤ out.length + ms.length := by
  induction ms generalizing out with
  | nil => simp
  | cons m ms ih =>
    rw [List.foldl_cons, List.length_cons]
    have h1 := ih (withStep xs c id mine out m.1)
    have h2 := withStep_len xs c id mine out m.1
    omega

end Go.TM
