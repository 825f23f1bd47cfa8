/- Marks of rows that hold slices: the loops of the laws' marks, said once. -/
import Derived.Test.YtiljcjnnhkidbaaGreatAPMarkText
set_option linter.unusedSimpArgs false
set_option linter.unusedVariables false
namespace Go.TM
open Go
theorem nat_neg (k : Nat) : decide (((k : Nat) : Int) < (0 : Int)) = false := dec_false (by omega)
theorem succ_w {k : Nat} (h : k ≤ 1073741824) : IntKind.i64.wrap (((k : Nat) : Int) + (1 : Int)) = (((k + 1 : Nat)) : Int) := succ_wrap (by omega)
theorem markOf_w {k : Nat} (h : k ≤ 1073741824) : laws_markText ((k : Nat) : Int) = some (markOf k, ()) := markOf_eq (by omega)
theorem wl_scale {α : Type} (f g : α → Nat) (c : Nat) (h : ∀ x, f x ≤ c * (1 + g x)) : (xs : List α) → wl f xs ≤ c * (xs.length + wl g xs)
 | [] => Nat.zero_le _
 | x :: xs => by
   have h1 := h x; have h2 := wl_scale f g c h xs; rw [wl_cons, wl_cons, List.length_cons]; have e : c * (xs.length + 1 + (g x + wl g xs)) = c * (1 + g x) + c * (xs.length + wl g xs) := by rw [← Nat.mul_add]; congr 1; omega
   omega
theorem wl_take_le {α : Type} (f : α → Nat) (xs : List α) {k : Nat} (hk : k < xs.length) : wl f (xs.take k) + f xs[k] ≤ wl f xs := by
 have h1 := wl_take f xs hk; have h2 : wl f xs = wl f (xs.take (k + 1)) + wl f (xs.drop (k + 1)) := by rw [← wl_app, List.take_append_drop]
 omega
theorem mark_loop {α B : Type} (M : α → Nat) (HD : α → Nat → α → Prop) (round : List α × Int × Int × Unit → Option (Sum (List α × Int × Int × Unit) (Sum (List α × Int × Unit) B))) (xs : List α) (a : Nat)
   (hend : ∀ (l : List α) (m : Int), l.length = xs.length → round (l, m, ((xs.length : Nat) : Int), ()) = some (.inr (.inl (l, m, ()))))
   (hstep : ∀ (l : List α) (k : Nat) (hk : k < xs.length) (n : Nat), l.length = xs.length → l[k]? = some xs[k] → n + M xs[k] ≤ a + wl M xs → ∃ y, HD xs[k] n y ∧ round (l, ((n : Nat) : Int), ((k : Nat) : Int), ()) = some (.inl (l.set k y, ((n + M xs[k] : Nat) : Int), ((k + 1 : Nat) : Int), ()))) :
   ∃ l, loopV round (xs, ((a : Nat) : Int), (0 : Int), ()) = some (.inl (l, ((a + wl M xs : Nat) : Int), ())) ∧ l.length = xs.length ∧ ∀ j (hj : j < xs.length), ∃ y, l[j]? = some y ∧ HD xs[j] (a + wl M (xs.take j)) y := by
 obtain ⟨e, he, l, rfl, hl, hj⟩ := loop_inv (round := round) (x := (xs, ((a : Nat) : Int), ((0 : Nat) : Int), ())) xs.length
   (fun k x => ∃ l : List α, x = (l, ((a + wl M (xs.take k) : Nat) : Int), ((k : Nat) : Int), ()) ∧ l.length = xs.length ∧ (∀ j (hj : j < xs.length), j < k → ∃ y, l[j]? = some y ∧ HD xs[j] (a + wl M (xs.take j)) y) ∧ ∀ j (hj : j < xs.length), k ≤ j → l[j]? = some xs[j])
   (fun e => ∃ l : List α, e = .inl (l, ((a + wl M xs : Nat) : Int), ()) ∧ l.length = xs.length ∧ ∀ j (hj : j < xs.length), ∃ y, l[j]? = some y ∧ HD xs[j] (a + wl M (xs.take j)) y) (by
   rintro x ⟨l, rfl, hl, hj, _⟩
   rw [List.take_length]; exact ⟨_, hend l _ hl, l, rfl, hl, fun j hj' => hj j hj' hj'⟩) (by
   rintro k x hk ⟨l, rfl, hl, h1, h2⟩
   have hb := wl_take_le M xs hk; obtain ⟨y, hy, hr⟩ := hstep l k hk (a + wl M (xs.take k)) hl (h2 k hk (Nat.le_refl _)) (by omega); refine .inr ⟨_, hr, l.set k y, by rw [Nat.add_assoc, ← wl_take M xs hk], by simp [hl], fun j hj hjk => ?_, fun j hj hjk => ?_⟩
   · by_cases e : k = j
     · subst e; exact ⟨y, by rw [List.getElem?_set_self (by omega)], hy⟩
     · rw [List.getElem?_set_ne e]; exact h1 j hj (by omega)
   · rw [List.getElem?_set_ne (by omega)]; exact h2 j hj (by omega)) ⟨xs, by rw [List.take_zero]; rfl, rfl, fun j _ h => by omega, fun j hj _ => List.getElem?_eq_getElem hj⟩
 exact ⟨l, he, hl, hj⟩
theorem held_loop {α B : Type} (M : α → Nat) (HD : α → Nat → α → Prop) (round : List α × Int × Int × Unit → Option (Sum (List α × Int × Int × Unit) (Sum (Int × Unit) B))) (xs l : List α) (a : Nat) (hl : l.length = xs.length)
   (hy : ∀ j (hj : j < xs.length), ∃ y, l[j]? = some y ∧ HD xs[j] (a + wl M (xs.take j)) y)
   (hend : ∀ m : Int, round (l, m, ((xs.length : Nat) : Int), ()) = some (.inr (.inl (m, ()))))
   (hstep : ∀ (k : Nat) (hk : k < xs.length) (n : Nat) (y : α), k < l.length → l[k]? = some y → HD xs[k] n y → n + M xs[k] ≤ a + wl M xs → round (l, ((n : Nat) : Int), ((k : Nat) : Int), ()) = some (.inl (l, ((n + M xs[k] : Nat) : Int), ((k + 1 : Nat) : Int), ()))) :
   loopV round (l, ((a : Nat) : Int), (0 : Int), ()) = some (.inl (((a + wl M xs : Nat) : Int), ())) := by
 have h := loop_run (round := round) (e := .inl (((a + wl M xs : Nat) : Int), ())) xs.length (fun k => (l, ((a + wl M (xs.take k) : Nat) : Int), ((k : Nat) : Int), ())) (by
   rw [List.take_length]; exact hend _) (fun k hk => by
   have hb := wl_take_le M xs hk; obtain ⟨y, h1, h2⟩ := hy k hk; have := hstep k hk _ y (by omega) h1 h2 (by omega); rw [this, Nat.add_assoc, ← wl_take M xs hk])
 have h : loopV round (l, ((a + wl M (xs.take 0) : Nat) : Int), (0 : Int), ()) = _ := h
 rwa [List.take_zero] at h
end Go.TM
