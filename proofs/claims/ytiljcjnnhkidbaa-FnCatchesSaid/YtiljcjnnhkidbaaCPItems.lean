/- Items, of the program and of the reference: right ones, the one of a number, how many without a hole. -/
import Derived.Test.YtiljcjnnhkidbaaCPToken
set_option linter.unusedSimpArgs false
set_option linter.unusedVariables false
namespace Go.TM
open Go
theorem level_eq (a : Int) : impl_isLevel a = some (decide (1 ≤ a) && decide (a ≤ 2), ()) := by
 unfold impl_isLevel
 by_cases h1 : a = 1
 · subst h1; rfl
 by_cases h2 : a = 2
 · subst h2; rfl
 have e : (decide (1 ≤ a) && decide (a ≤ 2)) = false := by
   rw [Bool.and_eq_false_iff, decide_eq_false_iff_not, decide_eq_false_iff_not]; omega
 rw [e, dec_false h1, dec_false h2]; rfl
theorem item_same (a b c : Int) (s : ByteArray) : ∃ x, spec_ItemOk a b c s = some (x, ()) ∧ impl_ItemOk a b c s = some (x, ()) := by
 unfold spec_ItemOk impl_ItemOk; simp only [in_eq, in_eq', daemon_eq, level_eq, Option.bind_some]
 cases (decide (1 ≤ a) && decide (a ≤ 60))
 · exact ⟨_, rfl, rfl⟩
 cases (decide (1 ≤ b) && decide (b ≤ 5))
 · exact ⟨_, rfl, rfl⟩
 cases (decide (1 ≤ c) && decide (c ≤ 2))
 · exact ⟨_, rfl, rfl⟩
 · exact ⟨_, rfl, rfl⟩
theorem items_loop (xs : List (Int × Int × Int × ByteArray × Unit)) (h : xs.length ≤ 1048576) :
   ∃ e f, loopV spec_ItemsOk_r0 (xs, (0 : Int), ()) = some e ∧ loopV impl_ItemsOk_r0 (xs, xs, ((List.length xs : Nat) : Int), (0 : Int), ()) = some f ∧ SameOut e f := by
 refine loop_two xs.length (fun k x y => x = (xs, ((k : Nat) : Int), ()) ∧ y = (xs, xs, ((List.length xs : Nat) : Int), ((k : Nat) : Int), ())) SameOut ?_ ⟨rfl, rfl⟩
 rintro k x y hk ⟨rfl, rfl⟩
 by_cases hlt : k < xs.length
 · obtain ⟨b, r1, r2⟩ := item_same xs[k].1 xs[k].2.1 xs[k].2.2.1 xs[k].2.2.2.1; simp only [spec_ItemsOk_r0, spec_ItemsOk_c0, impl_ItemsOk_r0, impl_ItemsOk_c0, lt_nat_true hlt, zero_le_nat, cond_true, toNat_nat, List.getElem?_eq_getElem hlt, Option.bind_some, r1, r2, succ_wrap (show k < 4611686018427387904 by omega)]
   cases b
   · exact .inl ⟨.inr (false, ()), .inr (false, ()), rfl, rfl, rfl⟩
   · by_cases h0 : 0 < k
     · have hp : k - 1 < xs.length := by omega
       rw [pred_wrap h0 (by omega)]; simp only [dec_true (show (0 : Int) < ((k : Nat) : Int) by omega), Bool.not_true, cond_false, cond_true, zero_le_nat, toNat_nat, List.getElem?_eq_getElem hp, Option.bind_some]
       cases decide (xs[k].1 ≤ xs[k - 1].1)
       · exact .inr ⟨hlt, _, _, rfl, rfl, rfl, rfl⟩
       · exact .inl ⟨.inr (false, ()), .inr (false, ()), rfl, rfl, rfl⟩
     · have : k = 0 := by omega
       subst this; simp only [dec_false (show ¬ (0 : Int) < ((0 : Nat) : Int) by omega), Bool.not_true, cond_false]; exact .inr ⟨hlt, _, _, rfl, rfl, rfl, rfl⟩
 · have : k = xs.length := by omega
   subst this; exact .inl ⟨.inl (), .inl (), by simp only [spec_ItemsOk_r0, spec_ItemsOk_c0, lt_nat_irr, cond_false], by simp only [impl_ItemsOk_r0, impl_ItemsOk_c0, lt_nat_irr, cond_false], trivial⟩
theorem items_same (xs : List (Int × Int × Int × ByteArray × Unit)) (h : xs.length ≤ 1048576) : ∃ b, spec_ItemsOk xs = some (b, ()) ∧ impl_ItemsOk xs = some (b, ()) := by
 obtain ⟨e, f, h1, h2, h3⟩ := items_loop xs h; unfold spec_ItemsOk impl_ItemsOk; rw [h1, h2]
 cases e with
 | inl e => cases f with
   | inl f => exact ⟨true, rfl, rfl⟩
   | inr f => exact h3.elim
 | inr e => cases f with
   | inl f => exact h3.elim
   | inr f => exact ⟨e.1, rfl, by rw [show e.1 = f.1 from h3]; rfl⟩
abbrev ItemR : Type := Int × Int × Int × ByteArray × Unit
abbrev ItemL : Type := List ItemR
def itemAt (xs : ItemL) (s : Int) : Option ItemR := xs.find? fun r => decide (r.1 = s)
def itemOut : Option ItemR → Int × Int × Int × ByteArray × Bool × Unit
 | none => (0, 0, 0, ByteArray.empty, false, ())
 | some r => (r.1, r.2.1, r.2.2.1, r.2.2.2.1, true, ())
def itemEnd : Option ItemR → Sum (Int × Int × Int × ByteArray × Unit) (Int × Int × Int × ByteArray × Bool × Unit)
 | none => .inl (0, 0, 0, ByteArray.empty, ())
 | some r => .inr (itemOut (some r))
theorem find_drop (xs : ItemL) (s : Int) {k : Nat} (hk : k < xs.length) : itemAt (xs.drop k) s = if xs[k].1 = s then some xs[k] else itemAt (xs.drop (k + 1)) s := by
 unfold itemAt; rw [List.drop_eq_getElem_cons hk, List.find?_cons]
 by_cases h : xs[k].1 = s
 · rw [dec_true h, if_pos h]
 · rw [dec_false h, if_neg h]
theorem itemat_spec (xs : ItemL) (s : Int) (h : xs.length ≤ 1048576) : spec_ItemAt xs s = some (itemOut (itemAt xs s)) := by
 have hl := loop_ind (round := spec_ItemAt_r0) (n := xs.length) (fun k => (xs, s, (0 : Int), (0 : Int), (0 : Int), ByteArray.empty, ((k : Nat) : Int), ())) (fun k => some (itemEnd (itemAt (xs.drop k) s)))
   ⟨.inl (0, 0, 0, ByteArray.empty, ()), by simp only [spec_ItemAt_r0, spec_ItemAt_c0, lt_nat_irr, cond_false], by rw [List.drop_length]; rfl⟩ (fun k hk => by
     rw [find_drop xs s hk]; simp only [spec_ItemAt_r0, spec_ItemAt_c0, lt_nat_true hk, zero_le_nat, cond_true, toNat_nat, List.getElem?_eq_getElem hk, Option.bind_some, succ_wrap (show k < 4611686018427387904 by omega)]
     by_cases h : xs[k].1 = s
     · rw [dec_true h, if_pos h]; exact .inl ⟨_, rfl, rfl⟩
     · rw [dec_false h, if_neg h]; exact .inr ⟨rfl, rfl⟩) 0 (Nat.zero_le _)
 unfold spec_ItemAt; have hl : loopV spec_ItemAt_r0 (xs, s, (0 : Int), (0 : Int), (0 : Int), ByteArray.empty, (0 : Int), ()) = _ := hl; rw [hl, List.drop_zero]
 cases itemAt xs s <;> rfl
theorem itemat_impl (xs : ItemL) (s : Int) (h : xs.length ≤ 1048576) : impl_ItemAt xs s = some (itemOut (itemAt xs s)) := by
 have hl := loop_ind (round := impl_ItemAt_r0) (n := xs.length) (fun k => (s, (0 : Int), (0 : Int), (0 : Int), ByteArray.empty, xs, ((List.length xs : Nat) : Int), ((k : Nat) : Int), ())) (fun k => some (itemEnd (itemAt (xs.drop k) s)))
   ⟨.inl (0, 0, 0, ByteArray.empty, ()), by simp only [impl_ItemAt_r0, impl_ItemAt_c0, lt_nat_irr, cond_false], by rw [List.drop_length]; rfl⟩ (fun k hk => by
     rw [find_drop xs s hk]; simp only [impl_ItemAt_r0, impl_ItemAt_c0, lt_nat_true hk, zero_le_nat, cond_true, toNat_nat, List.getElem?_eq_getElem hk, Option.bind_some, succ_wrap (show k < 4611686018427387904 by omega)]
     by_cases h : xs[k].1 = s
     · rw [dec_true h, if_pos h]; exact .inl ⟨_, rfl, rfl⟩
     · rw [dec_false h, if_neg h]; exact .inr ⟨rfl, rfl⟩) 0 (Nat.zero_le _)
 unfold impl_ItemAt; have hl : loopV impl_ItemAt_r0 (s, (0 : Int), (0 : Int), (0 : Int), ByteArray.empty, xs, ((List.length xs : Nat) : Int), (0 : Int), ()) = _ := hl; rw [hl, List.drop_zero]
 cases itemAt xs s <;> rfl
theorem few_numbers : (n : Nat) → (ys : List Int) → (∀ i, i < n → ((i + 1 : Nat) : Int) ∈ ys) → n ≤ ys.length
 | 0, _, _ => Nat.zero_le _
 | n + 1, ys, h => by
   have hm := h n (by omega); have := few_numbers n (ys.erase ((n + 1 : Nat) : Int)) (fun i hi => (List.mem_erase_of_ne (by omega)).2 (h i (by omega))); rw [List.length_erase_of_mem hm] at this; have : 0 < ys.length := List.length_pos_of_mem hm; omega
theorem itemAt_mem {xs : ItemL} {s : Int} {r : ItemR} (h : itemAt xs s = some r) : r ∈ xs ∧ r.1 = s := by
 unfold itemAt at h; exact ⟨List.mem_of_find?_eq_some h, by have := List.find?_some h; simpa using this⟩
def IsAru (xs : ItemL) (n : Nat) : Prop := n ≤ xs.length ∧ (∀ i, i < n → (itemAt xs ((i + 1 : Nat) : Int)).isSome = true) ∧ itemAt xs ((n + 1 : Nat) : Int) = none
theorem aru_end {xs : ItemL} (h : ∀ i, i < xs.length → (itemAt xs ((i + 1 : Nat) : Int)).isSome = true) : itemAt xs ((xs.length + 1 : Nat) : Int) = none := by
 cases hq : itemAt xs ((xs.length + 1 : Nat) : Int) with
 | none => rfl
 | some r =>
   have key := few_numbers (xs.length + 1) (xs.map (·.1)) (fun i hi => by
     have : ∃ r, itemAt xs ((i + 1 : Nat) : Int) = some r := by
       by_cases hi' : i < xs.length
       · exact Option.isSome_iff_exists.1 (h i hi')
       · have : i = xs.length := by omega
         subst this; exact ⟨r, hq⟩
     obtain ⟨r', hr⟩ := this; obtain ⟨m1, m2⟩ := itemAt_mem hr; exact List.mem_map.2 ⟨r', m1, m2⟩)
   rw [List.length_map] at key; omega
theorem aru_same (xs : ItemL) (h : xs.length ≤ 1048576) : ∃ n : Nat, spec_AruOf xs = some (((n : Nat) : Int), ()) ∧ impl_AruOf xs = some (((n : Nat) : Int), ()) ∧ IsAru xs n := by
 obtain ⟨e, f, h1, h2, n, h3⟩ : ∃ e f, loopV spec_AruOf_r0 (xs, (0 : Int), (0 : Int), ()) = some e ∧ loopV impl_AruOf_r0 (xs, (0 : Int), ()) = some f ∧ ∃ n : Nat, (e = .inl (((n : Nat) : Int), ()) ∨ e = .inr (((n : Nat) : Int), ())) ∧ f = .inr (((n : Nat) : Int), ()) ∧ IsAru xs n := by
   refine loop_two xs.length (fun k x y => x = (xs, ((k : Nat) : Int), ((k : Nat) : Int), ()) ∧ y = (xs, ((k : Nat) : Int), ()) ∧ ∀ i, i < k → (itemAt xs ((i + 1 : Nat) : Int)).isSome = true) _ ?_ ⟨rfl, rfl, fun i hi => by omega⟩
   rintro k x y hk ⟨rfl, rfl, hall⟩
   simp only [spec_AruOf_r0, spec_AruOf_c0, impl_AruOf_r0, impl_AruOf_c0, succ_wrap (show k < 4611686018427387904 by omega), itemat_spec xs _ h, itemat_impl xs _ h, Option.bind_some]
   by_cases hlt : k < xs.length
   · rw [lt_nat_true hlt]
     cases hq : itemAt xs ((k + 1 : Nat) : Int) with
     | none => exact .inl ⟨.inr (((k : Nat) : Int), ()), .inr (((k : Nat) : Int), ()), rfl, rfl, k, .inr rfl, rfl, hk, hall, hq⟩
     | some r =>
       refine .inr ⟨hlt, _, _, rfl, rfl, rfl, rfl, fun i hi => ?_⟩
       by_cases hi' : i < k
       · exact hall i hi'
       · have : i = k := by omega
         subst this; rw [hq]; rfl
   · have : k = xs.length := by omega
     subst this; have hq := aru_end hall; rw [lt_nat_irr, hq]; exact .inl ⟨.inl (((xs.length : Nat) : Int), ()), .inr (((xs.length : Nat) : Int), ()), rfl, rfl, xs.length, .inl rfl, rfl, hk, hall, hq⟩
 obtain ⟨h3, rfl, h4⟩ := h3; unfold spec_AruOf impl_AruOf; rw [h1, h2]; refine ⟨n, ?_, rfl, h4⟩; rcases h3 with rfl | rfl <;> rfl
end Go.TM
