/- The first right bundle of a daemon for a ring; those who go on together. -/
import Derived.Test.YtiljcjnnhkidbaaAPCopyLog
set_option linter.unusedSimpArgs false
set_option linter.unusedVariables false
namespace Go.TM
open Go
theorem bundle_same (a b c : Int) (xs : List (Int × Int × Int × ByteArray × Unit)) (h : xs.length ≤ 1048576) : ∃ x, spec_BundleOk a b c xs = some (x, ()) ∧ impl_BundleOk a b c xs = some (x, ()) := by
 obtain ⟨y, h1, h2⟩ := items_same xs h; unfold spec_BundleOk impl_BundleOk; simp only [in_eq, in_eq', daemon_eq, Option.bind_some, h1, h2]
 cases (decide (1 ≤ a) && decide (a ≤ 5))
 · exact ⟨_, rfl, rfl⟩
 cases (decide (1 ≤ b) && decide (b ≤ 9))
 · exact ⟨_, rfl, rfl⟩
 cases (decide (0 ≤ c) && decide (c ≤ IntKind.i64.wrap (b - 1)))
 · exact ⟨_, rfl, rfl⟩
 cases y
 · exact ⟨_, rfl, rfl⟩
 cases decide (0 < c)
 · exact ⟨_, rfl, rfl⟩
 · exact ⟨_, rfl, rfl⟩
abbrev BunR : Type := Int × Int × Int × ItemL × Unit
noncomputable def bunOk (b : BunR) : Bool := match spec_BundleOk b.1 b.2.1 b.2.2.1 b.2.2.2.1 with | some x => x.1 | none => false
theorem bunOk_spec (b : BunR) (h : b.2.2.2.1.length ≤ 1048576) : spec_BundleOk b.1 b.2.1 b.2.2.1 b.2.2.2.1 = some (bunOk b, ()) ∧ impl_BundleOk b.1 b.2.1 b.2.2.1 b.2.2.2.1 = some (bunOk b, ()) := by
 obtain ⟨x, h1, h2⟩ := bundle_same b.1 b.2.1 b.2.2.1 b.2.2.2.1 h; have : bunOk b = x := by unfold bunOk; rw [h1]
 rw [this]; exact ⟨h1, h2⟩
theorem buns_len (xs : List BunR) {k : Nat} (hk : k < xs.length) (h : xs.length + wl W_iiiLiiisE xs ≤ 1048576) : xs[k].2.2.2.1.length ≤ 1048576 := by
 have hw := wl_mem W_iiiLiiisE xs xs[k] (List.getElem_mem hk); have : W_iiiLiiisE xs[k] = List.length xs[k].2.2.2.1 + wl W_iiis xs[k].2.2.2.1 := rfl; omega
noncomputable def bunAt (xs : List BunR) (c id : Int) : Option BunR := xs.find? fun b => decide (b.1 = id) && (decide (b.2.1 = c) && bunOk b)
abbrev bunOut : Option BunR → Int × Int × Int × ItemL × Bool × Unit
 | none => (0, 0, 0, [], false, ())
 | some b => (b.1, b.2.1, b.2.2.1, b.2.2.2.1, true, ())
def bunEnd : Option BunR → Sum (Int × Int × Int × ItemL × Unit) (Int × Int × Int × ItemL × Bool × Unit)
 | none => .inl (0, 0, 0, [], ())
 | some b => .inr (bunOut (some b))
theorem bun_drop (xs : List BunR) (c id : Int) {k : Nat} (hk : k < xs.length) : bunAt (xs.drop k) c id = if (decide (xs[k].1 = id) && (decide (xs[k].2.1 = c) && bunOk xs[k])) = true then some xs[k] else bunAt (xs.drop (k + 1)) c id := by
 unfold bunAt; rw [List.drop_eq_getElem_cons hk, List.find?_cons]
 cases (decide (xs[k].1 = id) && (decide (xs[k].2.1 = c) && bunOk xs[k])) <;> rfl
theorem bunAt_mem {xs : List BunR} {c id : Int} {b : BunR} (h : bunAt xs c id = some b) : b ∈ xs ∧ b.1 = id ∧ b.2.1 = c ∧ bunOk b = true := by
 unfold bunAt at h; have := List.find?_some h; simp only [Bool.and_eq_true, decide_eq_true_eq] at this; exact ⟨List.mem_of_find?_eq_some h, this⟩
theorem first_spec (r0c0 : Int) (r0c1 : List (Int × Unit)) (xs : List BunR) (id : Int) (h : xs.length + wl W_iiiLiiisE xs ≤ 1048576) : spec_l13First r0c0 r0c1 xs id = some (bunOut (bunAt xs r0c0 id)) := by
 have hl := loop_ind (round := spec_l13First_r0) (n := xs.length) (fun k => (xs, id, r0c0, r0c1, (0 : Int), (0 : Int), (0 : Int), [], ((k : Nat) : Int), ())) (fun k => some (bunEnd (bunAt (xs.drop k) r0c0 id)))
   ⟨.inl (0, 0, 0, [], ()), by simp only [spec_l13First_r0, spec_l13First_c0, lt_nat_irr, cond_false], by rw [List.drop_length]; rfl⟩ (fun k hk => by
     have hb := (bunOk_spec xs[k] (buns_len xs hk h)).1; rw [bun_drop xs r0c0 id hk]; simp only [spec_l13First_r0, spec_l13First_c0, lt_nat_true hk, zero_le_nat, cond_true, toNat_nat, List.getElem?_eq_getElem hk, Option.bind_some, hb, succ_wrap (show k < 4611686018427387904 by omega)]
     cases decide (xs[k].1 = id)
     · exact .inr ⟨rfl, rfl⟩
     cases decide (xs[k].2.1 = r0c0)
     · exact .inr ⟨rfl, rfl⟩
     cases bunOk xs[k]
     · exact .inr ⟨rfl, rfl⟩
     · exact .inl ⟨_, rfl, rfl⟩) 0 (Nat.zero_le _)
 unfold spec_l13First; have hl : loopV spec_l13First_r0 (xs, id, r0c0, r0c1, (0 : Int), (0 : Int), (0 : Int), [], (0 : Int), ()) = _ := hl; rw [hl, List.drop_zero]
 cases bunAt xs r0c0 id <;> rfl
theorem first_impl (r0c0 : Int) (r0c1 : List (Int × Unit)) (xs : List BunR) (id : Int) (h : xs.length + wl W_iiiLiiisE xs ≤ 1048576) : impl_bundleOf r0c0 r0c1 xs id = some (bunOut (bunAt xs r0c0 id)) := by
 have hl := loop_ind (round := impl_bundleOf_r0) (n := xs.length) (fun k => (id, r0c0, r0c1, (0 : Int), (0 : Int), (0 : Int), [], xs, ((xs.length : Nat) : Int), ((k : Nat) : Int), ())) (fun k => some (bunEnd (bunAt (xs.drop k) r0c0 id)))
   ⟨.inl (0, 0, 0, [], ()), by simp only [impl_bundleOf_r0, impl_bundleOf_c0, lt_nat_irr, cond_false], by rw [List.drop_length]; rfl⟩ (fun k hk => by
     have hb := (bunOk_spec xs[k] (buns_len xs hk h)).2; rw [bun_drop xs r0c0 id hk]; simp only [impl_bundleOf_r0, impl_bundleOf_c0, lt_nat_true hk, zero_le_nat, cond_true, toNat_nat, List.getElem?_eq_getElem hk, Option.bind_some, hb, succ_wrap (show k < 4611686018427387904 by omega)]
     cases decide (xs[k].1 = id)
     · exact .inr ⟨rfl, rfl⟩
     cases decide (xs[k].2.1 = r0c0)
     · exact .inr ⟨rfl, rfl⟩
     cases bunOk xs[k]
     · exact .inr ⟨rfl, rfl⟩
     · exact .inl ⟨_, rfl, rfl⟩) 0 (Nat.zero_le _)
 unfold impl_bundleOf; have hl : loopV impl_bundleOf_r0 (id, r0c0, r0c1, (0 : Int), (0 : Int), (0 : Int), [], xs, ((xs.length : Nat) : Int), (0 : Int), ()) = _ := hl; rw [hl, List.drop_zero]
 cases bunAt xs r0c0 id <;> rfl
noncomputable def withStep (xs : List BunR) (c id : Int) (mine : BunR) (out : List (Int × Unit)) (d : Int) : List (Int × Unit) :=
 match bunAt xs c d with
 | none => out
 | some b => if (d = id ∨ (b.2.2.1 = mine.2.2.1 ∧ 0 < b.2.2.1)) ∧ (d, ()) ∉ out then out ++ [(d, ())] else out
theorem withStep_len (xs : List BunR) (c id : Int) (mine : BunR) (out : List (Int × Unit)) (d : Int) : (withStep xs c id mine out d).length ≤ out.length + 1 := by
 unfold withStep
 split
 · omega
 · split
   · simp
   · omega
noncomputable def withOf (xs : List BunR) (c : Int) (ms : List (Int × Unit)) (id : Int) : List (Int × Unit) :=
 match bunAt xs c id with
 | none => []
 | some mine => ms.foldl (fun out m => withStep xs c id mine out m.1) []
theorem in_spec (xs : List (Int × Unit)) (d : Int) (h : xs.length ≤ 1048576) : spec_l05In xs d = some (decide ((d, ()) ∈ xs), ()) := by
 have hl := loop_ind (round := spec_l05In_r0) (n := xs.length) (fun k => (xs, d, ((k : Nat) : Int), ())) (fun k => some (if (d, ()) ∈ xs.drop k then .inr (true, ()) else .inl ()))
   ⟨.inl (), by simp only [spec_l05In_r0, spec_l05In_c0, lt_nat_irr, cond_false], by rw [List.drop_length]; rfl⟩ (fun k hk => by
     rw [List.drop_eq_getElem_cons hk]; simp only [spec_l05In_r0, spec_l05In_c0, lt_nat_true hk, zero_le_nat, cond_true, toNat_nat, List.getElem?_eq_getElem hk, Option.bind_some, succ_wrap (show k < 4611686018427387904 by omega)]
     by_cases e : xs[k].1 = d
     · rw [dec_true e]; exact .inl ⟨_, rfl, by rw [if_pos (List.mem_cons.2 (.inl (by rw [← e])))]⟩
     · rw [dec_false e]; refine .inr ⟨rfl, ?_⟩; have : ((d, ()) ∈ xs[k] :: xs.drop (k + 1)) ↔ ((d, ()) ∈ xs.drop (k + 1)) := by
         rw [List.mem_cons]; exact ⟨fun h => h.resolve_left (fun q => e (by rw [← q])), .inr⟩
       by_cases q : (d, ()) ∈ xs.drop (k + 1)
       · rw [if_pos q, if_pos (this.2 q)]
       · rw [if_neg q, if_neg (fun z => q (this.1 z))]) 0 (Nat.zero_le _)
 unfold spec_l05In; have hl : loopV spec_l05In_r0 (xs, d, (0 : Int), ()) = _ := hl; rw [hl, List.drop_zero]
 by_cases q : (d, ()) ∈ xs
 · rw [if_pos q, dec_true q]; rfl
 · rw [if_neg q, dec_false q]; rfl
theorem in_impl (xs : List (Int × Unit)) (d : Int) (h : xs.length ≤ 1048576) : slices_Contains_int xs d = some (decide ((d, ()) ∈ xs), ()) := by
 obtain ⟨b, h1, h2⟩ := contains_same d xs h; rw [in_spec xs d h] at h1; injection h1 with h1; injection h1 with h1 _; rw [h2, h1]
theorem fold_take {α β : Type} (f : β → α → β) (b : β) (xs : List α) {k : Nat} (hk : k < xs.length) : (xs.take (k + 1)).foldl f b = f ((xs.take k).foldl f b) xs[k] := by
 rw [List.take_succ_eq_append_getElem hk, List.foldl_append]; rfl
theorem withFold_len (xs : List BunR) (c id : Int) (mine : BunR) (ms : List (Int × Unit)) (out : List (Int × Unit)) : (ms.foldl (fun out m => withStep xs c id mine out m.1) out).length ≤ out.length + ms.length := by
 induction ms generalizing out with
 | nil => simp
 | cons m ms ih =>
   rw [List.foldl_cons, List.length_cons]; have h1 := ih (withStep xs c id mine out m.1); have h2 := withStep_len xs c id mine out m.1; omega
theorem together_same (r0c0 : Int) (r0c1 : List (Int × Unit)) (xs : List BunR) (id : Int) (h0 : r0c1.length ≤ 1048576) (h : xs.length + wl W_iiiLiiisE xs ≤ 1048576) :
   spec_TogetherWith r0c0 r0c1 xs id = some (withOf xs r0c0 r0c1 id, ()) ∧ impl_TogetherWith r0c0 r0c1 xs id = some (withOf xs r0c0 r0c1 id, ()) ∧ (withOf xs r0c0 r0c1 id).length ≤ r0c1.length := by
 unfold spec_TogetherWith impl_TogetherWith withOf; rw [first_spec _ _ _ _ h, first_impl _ _ _ _ h]
 cases hm : bunAt xs r0c0 id with
 | none => exact ⟨rfl, rfl, Nat.zero_le _⟩
 | some mine =>
   have hid := (bunAt_mem hm).2.1; have hlen := withFold_len xs r0c0 id mine r0c1 []; rw [List.length_nil, Nat.zero_add] at hlen; have hk8 : ∀ k, k < r0c1.length → Nat.ble ((((r0c1.take k).foldl (fun out m => withStep xs r0c0 id mine out m.1) []).length + 1) * 8) lim = true := fun k hk => by
     have := withFold_len xs r0c0 id mine (r0c1.take k) []; rw [List.length_nil, Nat.zero_add, List.length_take] at this; exact ble_true (by unfold lim; omega)
   have hin : ∀ k, k < r0c1.length → ((r0c1.take k).foldl (fun out m => withStep xs r0c0 id mine out m.1) []).length ≤ 1048576 := fun k hk => by
     have := withFold_len xs r0c0 id mine (r0c1.take k) []; rw [List.length_nil, Nat.zero_add, List.length_take] at this; omega
   have l1 := loop_run (round := spec_TogetherWith_r0) (e := .inl (r0c1.foldl (fun out m => withStep xs r0c0 id mine out m.1) [], ())) r0c1.length (fun k => (xs, id, r0c0, r0c1, (r0c1.take k).foldl (fun out m => withStep xs r0c0 id mine out m.1) [], mine.1, mine.2.1, mine.2.2.1, mine.2.2.2.1, ((k : Nat) : Int), ())) (by
     simp only [spec_TogetherWith_r0, spec_TogetherWith_c0, lt_nat_irr, cond_false, List.take_length]) (fun k hk => by
     rw [fold_take _ _ _ hk]; have e8 := hk8 k hk; have ei := hin k hk; generalize (r0c1.take k).foldl (fun out m => withStep xs r0c0 id mine out m.1) [] = out at e8 ei ⊢; simp only [spec_TogetherWith_r0, spec_TogetherWith_c0, lt_nat_true hk, zero_le_nat, cond_true, toNat_nat, List.getElem?_eq_getElem hk, Option.bind_some, first_spec _ _ _ _ h, succ_wrap (show k < 4611686018427387904 by omega)]; unfold withStep
     cases hb : bunAt xs r0c0 r0c1[k].1 with
     | none => rfl
     | some b =>
       have hf := (bunAt_mem hb).2.1; simp only [bunOut, hf, in_spec _ _ ei, Option.bind_some, cond_true, e8]
       by_cases q1 : r0c1[k].1 = id
       · rw [dec_true q1]
         by_cases q3 : (r0c1[k].1, ()) ∈ out
         · rw [dec_true q3, if_neg (fun z => z.2 q3)]; rfl
         · rw [dec_false q3, if_pos ⟨.inl q1, q3⟩]; rfl
       rw [dec_false q1]
       by_cases q2 : b.2.2.1 = mine.2.2.1
       · rw [dec_true q2]
         by_cases q4 : 0 < b.2.2.1
         · rw [dec_true q4]
           by_cases q3 : (r0c1[k].1, ()) ∈ out
           · rw [dec_true q3, if_neg (fun z => z.2 q3)]; rfl
           · rw [dec_false q3, if_pos ⟨.inr ⟨q2, q4⟩, q3⟩]; rfl
         · rw [dec_false q4, if_neg (fun z => z.1.elim q1 (fun w => q4 w.2))]; rfl
       · rw [dec_false q2, if_neg (fun z => z.1.elim q1 (fun w => q2 w.1))]; rfl)
   have l2 := loop_run (round := impl_TogetherWith_r0) (e := .inl (r0c1.foldl (fun out m => withStep xs r0c0 id mine out m.1) [], ())) r0c1.length (fun k => (xs, id, r0c0, r0c1, mine.1, mine.2.1, mine.2.2.1, mine.2.2.2.1, (r0c1.take k).foldl (fun out m => withStep xs r0c0 id mine out m.1) [], r0c1, ((r0c1.length : Nat) : Int), ((k : Nat) : Int), ())) (by
     simp only [impl_TogetherWith_r0, impl_TogetherWith_c0, lt_nat_irr, cond_false, List.take_length]) (fun k hk => by
     rw [fold_take _ _ _ hk]; have e8 := hk8 k hk; have ei := hin k hk; generalize (r0c1.take k).foldl (fun out m => withStep xs r0c0 id mine out m.1) [] = out at e8 ei ⊢; simp only [impl_TogetherWith_r0, impl_TogetherWith_c0, lt_nat_true hk, zero_le_nat, cond_true, toNat_nat, List.getElem?_eq_getElem hk, Option.bind_some, first_impl _ _ _ _ h, succ_wrap (show k < 4611686018427387904 by omega)]; unfold withStep
     cases hb : bunAt xs r0c0 r0c1[k].1 with
     | none => rfl
     | some b =>
       simp only [bunOut, in_impl _ _ ei, Option.bind_some, cond_true, e8]
       by_cases q3 : (r0c1[k].1, ()) ∈ out
       · rw [dec_true q3, if_neg (fun z => z.2 q3)]; rfl
       rw [dec_false q3]
       by_cases q1 : r0c1[k].1 = id
       · rw [dec_true q1, if_pos ⟨.inl q1, q3⟩]; rfl
       rw [dec_false q1]
       by_cases q4 : 0 < mine.2.2.1
       · rw [dec_true q4]
         by_cases q2 : b.2.2.1 = mine.2.2.1
         · rw [decT q2, if_pos ⟨.inr ⟨q2, by omega⟩, q3⟩]; rfl
         · rw [decF q2, if_neg (fun z => z.1.elim q1 (fun w => q2 w.1))]; rfl
       · rw [dec_false q4, if_neg (fun z => z.1.elim q1 (fun w => q4 (by omega)))]; rfl)
   have l1 : loopV spec_TogetherWith_r0 (xs, id, r0c0, r0c1, [], mine.1, mine.2.1, mine.2.2.1, mine.2.2.2.1, (0 : Int), ()) = _ := l1; have l2 : loopV impl_TogetherWith_r0 (xs, id, r0c0, r0c1, mine.1, mine.2.1, mine.2.2.1, mine.2.2.2.1, [], r0c1, ((r0c1.length : Nat) : Int), (0 : Int), ()) = _ := l2; simp only [bunOut, Option.bind_some, Bool.not_true, cond_false, l1, l2]; exact ⟨rfl, rfl, hlen⟩
end Go.TM
