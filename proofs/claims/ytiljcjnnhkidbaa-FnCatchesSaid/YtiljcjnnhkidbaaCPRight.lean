/- Right items and right members, said plainly; copies of members. -/
import Derived.Test.YtiljcjnnhkidbaaCPMate
set_option linter.unusedSimpArgs false
set_option linter.unusedVariables false
namespace Go.TM
open Go
def ItemP (r : ItemR) : Prop := (1 ≤ r.1 ∧ r.1 ≤ 60) ∧ (1 ≤ r.2.1 ∧ r.2.1 ≤ 5) ∧ (1 ≤ r.2.2.1 ∧ r.2.2.1 ≤ 2) ∧ ByteArray.size r.2.2.2.1 ≤ 60
def ItemsP (xs : ItemL) (n : Nat) : Prop := ∀ k (h : k < xs.length), k < n → ItemP xs[k] ∧ ∀ h0 : 0 < k, xs[k - 1].1 < xs[k].1
theorem item_iff (a b c : Int) (s : ByteArray) : ∃ x, spec_ItemOk a b c s = some (x, ()) ∧ impl_ItemOk a b c s = some (x, ()) ∧ (x = true ↔ ItemP (a, b, c, s, ())) := by
 have hi : ∀ {p q r : Prop} [Decidable p] [Decidable q], (decide p && decide q) = false → ¬ ((p ∧ q) ∧ r) := by
   intro p q r _ _ h ⟨h1, _⟩; rw [decide_eq_true h1.1, decide_eq_true h1.2] at h
   cases h
 unfold spec_ItemOk impl_ItemOk ItemP; simp only [in_eq, in_eq', daemon_eq, level_eq, Option.bind_some]
 cases h1 : (decide (1 ≤ a) && decide (a ≤ 60))
 · exact ⟨false, rfl, rfl, ⟨fun h => (by cases h), fun h => absurd h (hi h1)⟩⟩
 rw [Bool.and_eq_true, decide_eq_true_eq, decide_eq_true_eq] at h1
 cases h2 : (decide (1 ≤ b) && decide (b ≤ 5))
 · exact ⟨false, rfl, rfl, ⟨fun h => (by cases h), fun h => absurd h.2 (hi h2)⟩⟩
 rw [Bool.and_eq_true, decide_eq_true_eq, decide_eq_true_eq] at h2
 cases h3 : (decide (1 ≤ c) && decide (c ≤ 2))
 · exact ⟨false, rfl, rfl, ⟨fun h => (by cases h), fun h => absurd h.2.2 (hi h3)⟩⟩
 rw [Bool.and_eq_true, decide_eq_true_eq, decide_eq_true_eq] at h3; refine ⟨_, rfl, rfl, ?_⟩; rw [decide_eq_true_eq]; exact ⟨fun h => ⟨h1, h2, h3, by omega⟩, fun h => by have := h.2.2.2; omega⟩
theorem items_iff (xs : ItemL) (h : xs.length ≤ 1048576) : ∃ b, spec_ItemsOk xs = some (b, ()) ∧ impl_ItemsOk xs = some (b, ()) ∧ (b = true ↔ ItemsP xs xs.length) := by
 obtain ⟨b, h1, h2⟩ := items_same xs h; refine ⟨b, h1, h2, ?_⟩; obtain ⟨e, he, hq⟩ := loop_inv (round := spec_ItemsOk_r0) (x := (xs, ((0 : Nat) : Int), ())) xs.length (fun k x => x = (xs, ((k : Nat) : Int), ()) ∧ ItemsP xs k) (fun e => (e = .inl () ∧ ItemsP xs xs.length) ∨ (e = .inr (false, ()) ∧ ¬ ItemsP xs xs.length)) (by
     rintro x ⟨rfl, g⟩
     exact ⟨.inl (), by simp only [spec_ItemsOk_r0, spec_ItemsOk_c0, lt_nat_irr, cond_false], .inl ⟨rfl, g⟩⟩) (by
     rintro k x hk ⟨rfl, g⟩
     obtain ⟨b, r1, _, r3⟩ := item_iff xs[k].1 xs[k].2.1 xs[k].2.2.1 xs[k].2.2.2.1; have r3 : b = true ↔ ItemP xs[k] := r3; simp only [spec_ItemsOk_r0, spec_ItemsOk_c0, lt_nat_true hk, zero_le_nat, cond_true, toNat_nat, List.getElem?_eq_getElem hk, Option.bind_some, r1, succ_wrap (show k < 4611686018427387904 by omega)]; have more : ItemP xs[k] → (∀ h0 : 0 < k, xs[k - 1].1 < xs[k].1) → ItemsP xs (k + 1) := fun q1 q2 j hj hjk => by
       by_cases e : j < k
       · exact g j hj e
       · have : j = k := by omega
         subst this; exact ⟨q1, q2⟩
     cases b
     · exact .inl ⟨.inr (false, ()), rfl, .inr ⟨rfl, fun hn => absurd (r3.2 (hn k hk hk).1) (by simp)⟩⟩
     · have q1 := r3.1 rfl
       by_cases h0 : 0 < k
       · have hp : k - 1 < xs.length := by omega
         rw [pred_wrap h0 (by omega)]; simp only [dec_true (show (0 : Int) < ((k : Nat) : Int) by omega), Bool.not_true, cond_false, cond_true, zero_le_nat, toNat_nat, List.getElem?_eq_getElem hp, Option.bind_some]
         by_cases hs : xs[k].1 ≤ xs[k - 1].1
         · rw [dec_true hs]; refine .inl ⟨.inr (false, ()), rfl, .inr ⟨rfl, fun hn => ?_⟩⟩; have := (hn k hk hk).2 h0; omega
         · rw [dec_false hs]; exact .inr ⟨_, rfl, rfl, more q1 (fun _ => by omega)⟩
       · have : k = 0 := by omega
         subst this; simp only [dec_false (show ¬ (0 : Int) < ((0 : Nat) : Int) by omega), Bool.not_true, cond_false]; exact .inr ⟨_, rfl, rfl, more q1 (fun h => absurd h (by omega))⟩) ⟨rfl, fun j _ h => by omega⟩
 have he : loopV spec_ItemsOk_r0 (xs, (0 : Int), ()) = some e := he; unfold spec_ItemsOk at h1; rw [he] at h1; rcases hq with ⟨rfl, g⟩ | ⟨rfl, g⟩
 · injection h1 with h1; injection h1 with h1 _; exact ⟨fun _ => g, fun _ => h1.symm⟩
 · injection h1 with h1; injection h1 with h1 _; subst h1; exact ⟨fun h => (by cases h), fun h => absurd h g⟩
theorem wl_le {α : Type} (f : α → Nat) (c : Nat) : (xs : List α) → (∀ x ∈ xs, f x ≤ c) → wl f xs ≤ c * xs.length
 | [], _ => Nat.zero_le _
 | x :: xs, h => by
   rw [wl_cons, List.length_cons, Nat.mul_succ]; have := wl_le f c xs (fun y hy => h y (List.mem_cons_of_mem _ hy)); have := h x List.mem_cons_self; omega
theorem items_seq (xs : ItemL) (h : ItemsP xs xs.length) : ∀ k (hk : k < xs.length), ((k + 1 : Nat) : Int) ≤ xs[k].1
 | 0, hk => by have := (h 0 hk hk).1.1.1; omega
 | k + 1, hk => by
   have h1 := items_seq xs h k (by omega); have h2 := (h (k + 1) hk hk).2 (by omega); have h2 : xs[k].1 < xs[k + 1].1 := h2; omega
theorem items_small (xs : ItemL) (h : ItemsP xs xs.length) : xs.length ≤ 60 ∧ wl W_iiis xs ≤ 3600 := by
 have h1 : xs.length ≤ 60 := by
   by_cases h0 : 0 < xs.length
   · have := items_seq xs h (xs.length - 1) (by omega); have := (h (xs.length - 1) (by omega) (by omega)).1.1.2; omega
   · omega
 refine ⟨h1, Nat.le_trans (wl_le W_iiis 60 xs fun x hx => ?_) (by omega)⟩; obtain ⟨k, hk, rfl⟩ := List.mem_iff_getElem.1 hx; exact (h k hk hk).1.2.2.2
theorem texts_small (xs : List (ByteArray × Unit)) (h : ShortOk xs xs.length) : wl W_s xs ≤ 60 * xs.length := by
 refine wl_le W_s 60 xs fun x hx => ?_
 obtain ⟨k, hk, rfl⟩ := List.mem_iff_getElem.1 hx; exact h k hk hk
structure MateP (c0 c1 : Int) (c2 : List (Int × Unit)) (c3 : ItemL) (c4 : List (Int × Unit)) (c5 : List (ByteArray × Unit)) (c6 c7 c8 c9 : Int) (c15 : List (Int × Unit)) : Prop where
 ring : 1 ≤ c2.length ∧ c2.length ≤ 5
 items : ItemsP c3 c3.length
 texts : c5.length ≤ 20 ∧ c4.length = c5.length
 lev : LevOk c4 c4.length
 short : ShortOk c5 c5.length
 round : 0 ≤ c6 ∧ c6 ≤ 1000000000
 seen : 0 ≤ c7 ∧ c7 ≤ 60
 aru : ∃ n : Nat, spec_AruOf c3 = some (((n : Nat) : Int), ()) ∧ impl_AruOf c3 = some (((n : Nat) : Int), ()) ∧ IsAru c3 n ∧ (0 ≤ c8 ∧ c8 ≤ ((n : Nat) : Int)) ∧ 0 ≤ c9 ∧ c9 ≤ ((n : Nat) : Int)
 wants : c15.length ≤ 20
theorem and_of {p q : Prop} [Decidable p] [Decidable q] (h : (decide p && decide q) = true) : p ∧ q := by
 rw [Bool.and_eq_true, decide_eq_true_eq, decide_eq_true_eq] at h; exact h
theorem MateP.small {c0 c1 : Int} {c2 : List (Int × Unit)} {c3 : ItemL} {c4 : List (Int × Unit)} {c5 : List (ByteArray × Unit)} {c6 c7 c8 c9 : Int} {c15 : List (Int × Unit)} (h : MateP c0 c1 c2 c3 c4 c5 c6 c7 c8 c9 c15) :
   (List.length c2 + wl W_i c2) + (List.length c3 + wl W_iiis c3) + (List.length c4 + wl W_i c4) + (List.length c5 + wl W_s c5) + (List.length c15 + wl W_i c15) ≤ 5000 := by
 have h1 := items_small c3 h.items; have h2 := texts_small c5 h.short; have h3 := h.texts; have h4 := h.ring; have h5 := h.wants; rw [wl_zero W_i (fun _ => rfl), wl_zero W_i (fun _ => rfl), wl_zero W_i (fun _ => rfl)]; omega
theorem clone_items (xs : ItemL) (h : xs.length ≤ 1048576) : slices_Clone_impl_Item xs = some (xs, ()) := by
 unfold slices_Clone_impl_Item; rw [ble_true (show (0 + xs.length) * 40 ≤ lim by unfold lim; omega)]; rfl
theorem clone_string (xs : List (ByteArray × Unit)) (h : xs.length ≤ 1048576) : slices_Clone_string xs = some (xs, ()) := by
 unfold slices_Clone_string; rw [ble_true (show (0 + xs.length) * 16 ≤ lim by unfold lim; omega)]; rfl
theorem copyMate_eq (m0c0 : Int) (m0c1 : Int) (m0c2 : List (Int × Unit)) (m0c3 : ItemL) (m0c4 : List (Int × Unit)) (m0c5 : List (ByteArray × Unit)) (m0c6 : Int) (m0c7 : Int) (m0c8 : Int) (m0c9 : Int) (m0c10 : Int) (m0c11 : Int) (m0c12 : Int) (m0c13 : Int) (m0c14 : Int) (m0c15 : List (Int × Unit))
   (h0 : (List.length m0c2 + wl W_i m0c2) + (List.length m0c3 + wl W_iiis m0c3) + (List.length m0c4 + wl W_i m0c4) + (List.length m0c5 + wl W_s m0c5) + (List.length m0c15 + wl W_i m0c15) ≤ 1048576) :
   spec_l10Copy m0c0 m0c1 m0c2 m0c3 m0c4 m0c5 m0c6 m0c7 m0c8 m0c9 m0c10 m0c11 m0c12 m0c13 m0c14 m0c15 = some (m0c0, m0c1, m0c2, m0c3, m0c4, m0c5, m0c6, m0c7, m0c8, m0c9, m0c10, m0c11, m0c12, m0c13, m0c14, m0c15, ()) ∧
   impl_copyMate m0c0 m0c1 m0c2 m0c3 m0c4 m0c5 m0c6 m0c7 m0c8 m0c9 m0c10 m0c11 m0c12 m0c13 m0c14 m0c15 = some (m0c0, m0c1, m0c2, m0c3, m0c4, m0c5, m0c6, m0c7, m0c8, m0c9, m0c10, m0c11, m0c12, m0c13, m0c14, m0c15, ()) := by
 obtain ⟨t1, t2⟩ := copyToken_eq m0c10 m0c11 m0c12 m0c13 m0c14 m0c15 (by omega)
 constructor
 · unfold spec_l10Copy; rw [ble_true (show (0 + m0c2.length) * 8 ≤ lim by unfold lim; omega), ble_true (show (0 + m0c3.length) * 40 ≤ lim by unfold lim; omega), ble_true (show (0 + m0c4.length) * 8 ≤ lim by unfold lim; omega), ble_true (show (0 + m0c5.length) * 16 ≤ lim by unfold lim; omega), t1]; rfl
 · unfold impl_copyMate impl_copyRing; rw [clone_int m0c2 (by omega), clone_items m0c3 (by omega), clone_int m0c4 (by omega), clone_string m0c5 (by omega), t2]; rfl
end Go.TM
