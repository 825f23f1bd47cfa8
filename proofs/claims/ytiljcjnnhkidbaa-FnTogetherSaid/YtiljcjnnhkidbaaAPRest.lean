/- Union, Whole and Rest, of the program and of the reference. -/
import Derived.Test.YtiljcjnnhkidbaaAPPut
set_option linter.unusedSimpArgs false
set_option linter.unusedVariables false
namespace Go.TM
open Go
theorem filter_take {α : Type} (p : α → Bool) (xs : List α) {k : Nat} (hk : k < xs.length) : (xs.take (k + 1)).filter p = (xs.take k).filter p ++ (if p xs[k] = true then [xs[k]] else []) := by
 rw [List.take_succ_eq_append_getElem hk, List.filter_append, List.filter_cons]
 split <;> rfl
theorem filter_len {α : Type} (p : α → Bool) (xs : List α) (k : Nat) : ((xs.take k).filter p).length ≤ k := Nat.le_trans (List.length_filter_le _ _) (by rw [List.length_take]; omega)
theorem fold_items : (l : ItemL) → {out : ItemL} → ItemsP out out.length → (∀ r ∈ l, ItemP r) → ItemsP (l.foldl putR out) (l.foldl putR out).length
 | [], _, h, _ => h
 | x :: l, _, h, hl => fold_items l (putR_items h (hl x List.mem_cons_self)) (fun r hr => hl r (List.mem_cons_of_mem _ hr))
theorem nil_items : ItemsP [] ([] : ItemL).length := fun k hk => by simp at hk
noncomputable def unionStep (out : ItemL) (l : ItemL × Unit) : ItemL := bif itemsB l.1 then l.1.foldl putR out else out
noncomputable def unionR (lists : List (ItemL × Unit)) : ItemL := lists.foldl unionStep []
theorem step_items {out : ItemL} {l : ItemL × Unit} (h : ItemsP out out.length) (hl : l.1.length ≤ 1048576) : ItemsP (unionStep out l) (unionStep out l).length := by
 unfold unionStep
 cases hb : itemsB l.1
 · exact h
 · exact fold_items l.1 h (items_mem ((items_ok l.1 hl).2.2.1 hb))
theorem union_items : (lists : List (ItemL × Unit)) → {out : ItemL} → ItemsP out out.length → (∀ l ∈ lists, l.1.length ≤ 1048576) → ItemsP (lists.foldl unionStep out) (lists.foldl unionStep out).length
 | [], _, h, _ => h
 | l :: lists, _, h, hl => union_items lists (step_items h (hl l List.mem_cons_self)) (fun x hx => hl x (List.mem_cons_of_mem _ hx))
theorem items_len {xs : ItemL} (h : ItemsP xs xs.length) : xs.length ≤ 1048576 := Nat.le_trans (items_small xs h).1 (by decide)
theorem union_impl (lists : List (ItemL × Unit)) (h : lists.length ≤ 1048576) (hl : ∀ l ∈ lists, l.1.length ≤ 1048576) : impl_Union lists = some (unionR lists, ()) := by
 have l1 := loop_run (round := impl_Union_r0) (e := .inl (unionR lists, ())) lists.length (fun k => ((lists.take k).foldl unionStep [], lists, ((lists.length : Nat) : Int), ((k : Nat) : Int), ())) (by
   simp only [impl_Union_r0, impl_Union_c0, lt_nat_irr, cond_false, List.take_length]; rfl) (fun k hk => by
   have hout := union_items (lists.take k) (out := []) nil_items (fun l hl' => hl l (List.mem_of_mem_take hl')); have hlk := hl _ (List.getElem_mem hk); rw [fold_take _ _ _ hk]; generalize (lists.take k).foldl unionStep [] = out at hout ⊢; obtain ⟨_, i2, i3⟩ := items_ok lists[k].1 hlk; simp only [impl_Union_r0, impl_Union_c0, lt_nat_true hk, cond_true, zero_le_nat, toNat_nat, List.getElem?_eq_getElem hk, Option.bind_some, i2]
   cases hb : itemsB lists[k].1
   · simp only [unionStep, hb, Bool.not_false, cond_true, cond_false, succ_wrap (show k < 4611686018427387904 by omega)]
   · have hall := items_mem (i3.1 hb); have l2 := loop_run (round := impl_Union_r2) (e := .inl (lists[k].1.foldl putR out, lists, ((lists.length : Nat) : Int), ((k : Nat) : Int), ())) lists[k].1.length (fun j => ((lists[k].1.take j).foldl putR out, lists, ((lists.length : Nat) : Int), ((k : Nat) : Int), lists[k].1, ((lists[k].1.length : Nat) : Int), ((j : Nat) : Int), ())) (by
       simp only [impl_Union_r2, impl_Union_c2, lt_nat_irr, cond_false, List.take_length]) (fun j hj => by
       have hi2 := fold_items (lists[k].1.take j) hout (fun r hr => hall r (List.mem_of_mem_take hr)); have hp := putItem_impl ((lists[k].1.take j).foldl putR out) lists[k].1[j] (items_len hi2); simp only [impl_Union_r2, impl_Union_c2, zero_le_nat, cond_true, toNat_nat, List.getElem?_eq_getElem hj, Option.bind_some, lt_nat_true hj, hp, succ_wrap (show j < 4611686018427387904 by omega)]; rw [fold_take _ _ _ hj])
     have l2 : loopV impl_Union_r2 (out, lists, ((lists.length : Nat) : Int), ((k : Nat) : Int), lists[k].1, ((lists[k].1.length : Nat) : Int), (0 : Int), ()) = _ := l2; simp only [l2, outK, Option.bind_some, unionStep, hb, Bool.not_true, cond_true, cond_false, succ_wrap (show k < 4611686018427387904 by omega)])
 have l1 : loopV impl_Union_r0 ([], lists, ((lists.length : Nat) : Int), (0 : Int), ()) = _ := l1; unfold impl_Union; rw [l1]; rfl
noncomputable def wholeR (xs : ItemL) : ItemL := xs.filter fun r => decide (r.1 ≤ ((aruOf xs : Nat) : Int))
theorem whole_impl (xs : ItemL) (h : xs.length ≤ 1048576) : impl_Whole xs = some (wholeR xs, ()) := by
 obtain ⟨_, a1, _⟩ := aru_ok xs h; have l1 := loop_run (round := impl_Whole_r0) (e := .inl (wholeR xs, ())) xs.length (fun k => (((aruOf xs : Nat) : Int), (xs.take k).filter (fun r => decide (r.1 ≤ ((aruOf xs : Nat) : Int))), xs, ((xs.length : Nat) : Int), ((k : Nat) : Int), ())) (by
   simp only [impl_Whole_r0, impl_Whole_c0, lt_nat_irr, cond_false, List.take_length]; rfl) (fun k hk => by
   have hb := filter_len (fun r : ItemR => decide (r.1 ≤ ((aruOf xs : Nat) : Int))) xs k; rw [filter_take _ _ hk]; simp only [impl_Whole_r0, impl_Whole_c0, lt_nat_true hk, zero_le_nat, cond_true, toNat_nat, List.getElem?_eq_getElem hk, Option.bind_some, succ_wrap (show k < 4611686018427387904 by omega), ble_true (show (((xs.take k).filter (fun r => decide (r.1 ≤ ((aruOf xs : Nat) : Int)))).length + 1) * 40 ≤ lim by unfold lim; omega)]
   by_cases h1 : xs[k].1 ≤ ((aruOf xs : Nat) : Int)
   · rw [dec_true h1]; rfl
   · rw [dec_false h1, if_neg (by decide), List.append_nil]; rfl)
 have l1 : loopV impl_Whole_r0 (((aruOf xs : Nat) : Int), [], xs, ((xs.length : Nat) : Int), (0 : Int), ()) = _ := l1; unfold impl_Whole; simp only [a1, Option.bind_some, l1, outK]
noncomputable def bunItems (xs : List BunR) (c : Int) (d : Int × Unit) : ItemL × Unit := ((bunOut (bunAt xs c d.1)).2.2.2.1, ())
noncomputable def allR (xs : List BunR) (c : Int) (ms : MemL) (id : Int) : ItemL := wholeR (unionR ((withOf xs c ms id).map (bunItems xs c)))
noncomputable def restR (xs : List BunR) (c : Int) (ms : MemL) (id heard : Int) : ItemL :=
 match bunAt xs c id with
 | none => []
 | some mine => bif decide (mine.2.2.1 = 0) then [] else (allR xs c ms id).filter fun r => decide (heard < r.1)
theorem bunItems_len (xs : List BunR) (c : Int) (h : xs.length + wl W_iiiLiiisE xs ≤ 1048576) (d : Int × Unit) : (bunItems xs c d).1.length ≤ 1048576 := by
 unfold bunItems
 cases hb : bunAt xs c d.1 with
 | none => exact Nat.zero_le _
 | some b =>
   obtain ⟨k, hk, rfl⟩ := List.mem_iff_getElem.1 (bunAt_mem hb).1; exact buns_len xs hk h
theorem rest_impl (r0c0 : Int) (r0c1 : MemL) (xs : List BunR) (id heard : Int) (h0 : r0c1.length ≤ 1048576) (h : xs.length + wl W_iiiLiiisE xs ≤ 1048576) : impl_Rest r0c0 r0c1 xs id heard = some (restR xs r0c0 r0c1 id heard, ()) := by
 obtain ⟨t1, t2, t3⟩ := together_same r0c0 r0c1 xs id h0 h; have hw : (withOf xs r0c0 r0c1 id).length ≤ 1048576 := by omega
 have hls : ((withOf xs r0c0 r0c1 id).map (bunItems xs r0c0)).length ≤ 1048576 := by rw [List.length_map]; exact hw
 have hll : ∀ l ∈ (withOf xs r0c0 r0c1 id).map (bunItems xs r0c0), l.1.length ≤ 1048576 := fun l hl => by
   obtain ⟨d, _, rfl⟩ := List.mem_map.1 hl; exact bunItems_len xs r0c0 h d
 have hu : (unionR ((withOf xs r0c0 r0c1 id).map (bunItems xs r0c0))).length ≤ 1048576 := items_len (union_items _ (out := []) nil_items hll); have hwl : (allR xs r0c0 r0c1 id).length ≤ 1048576 := Nat.le_trans (List.length_filter_le _ _) hu; unfold impl_Rest restR; rw [first_impl _ _ _ _ h]
 cases hm : bunAt xs r0c0 id with
 | none => rfl
 | some mine =>
   by_cases ho : mine.2.2.1 = 0
   · simp only [bunOut, Option.bind_some, Bool.not_true, cond_false, decT ho, cond_true]
   simp only [bunOut, Option.bind_some, Bool.not_true, cond_false, decF ho, t1, t2]; have l1 := loop_run (round := impl_Rest_r0) (e := .inl (heard, (withOf xs r0c0 r0c1 id).map (bunItems xs r0c0), ())) (withOf xs r0c0 r0c1 id).length (fun k => (xs, heard, r0c0, r0c1, ((withOf xs r0c0 r0c1 id).take k).map (bunItems xs r0c0), withOf xs r0c0 r0c1 id, (((withOf xs r0c0 r0c1 id).length : Nat) : Int), ((k : Nat) : Int), ())) (by
     simp only [impl_Rest_r0, impl_Rest_c0, lt_nat_irr, cond_false, List.take_length]) (fun k hk => by
     simp only [impl_Rest_r0, impl_Rest_c0, lt_nat_true hk, zero_le_nat, cond_true, toNat_nat, blt_true hk, List.getElem?_eq_getElem hk, Option.bind_some, first_impl _ _ _ _ h, List.length_map, List.length_take, Nat.min_eq_left (Nat.le_of_lt hk), ble_true (show (k + 1) * 24 ≤ lim by unfold lim; omega), succ_wrap (show k < 4611686018427387904 by omega)]; rw [List.take_succ_eq_append_getElem hk, List.map_append]; rfl)
   have l1 : loopV impl_Rest_r0 (xs, heard, r0c0, r0c1, [], withOf xs r0c0 r0c1 id, (((withOf xs r0c0 r0c1 id).length : Nat) : Int), (0 : Int), ()) = _ := l1; have l2 := loop_run (round := impl_Rest_r2) (e := .inl ((allR xs r0c0 r0c1 id).filter (fun r => decide (heard < r.1)), ())) (allR xs r0c0 r0c1 id).length (fun k => (heard, ((allR xs r0c0 r0c1 id).take k).filter (fun r => decide (heard < r.1)), allR xs r0c0 r0c1 id, (((allR xs r0c0 r0c1 id).length : Nat) : Int), ((k : Nat) : Int), ())) (by
     simp only [impl_Rest_r2, impl_Rest_c2, lt_nat_irr, cond_false, List.take_length]) (fun k hk => by
     have hb := filter_len (fun r : ItemR => decide (heard < r.1)) (allR xs r0c0 r0c1 id) k; rw [filter_take _ _ hk]; simp only [impl_Rest_r2, impl_Rest_c2, lt_nat_true hk, zero_le_nat, cond_true, toNat_nat, blt_true hk, List.getElem?_eq_getElem hk, Option.bind_some, succ_wrap (show k < 4611686018427387904 by omega), ble_true (show ((((allR xs r0c0 r0c1 id).take k).filter (fun r => decide (heard < r.1))).length + 1) * 40 ≤ lim by unfold lim; omega)]
     by_cases h1 : heard < (allR xs r0c0 r0c1 id)[k].1
     · rw [dec_true h1]; rfl
     · rw [dec_false h1, if_neg (by decide), List.append_nil]; rfl)
   have l2 : loopV impl_Rest_r2 (heard, [], wholeR (unionR ((withOf xs r0c0 r0c1 id).map (bunItems xs r0c0))), (((wholeR (unionR ((withOf xs r0c0 r0c1 id).map (bunItems xs r0c0)))).length : Nat) : Int), (0 : Int), ()) = _ := l2; simp only [l1, outK, Option.bind_some, union_impl _ hls hll, whole_impl _ hu, l2]
theorem wl_filter {α : Type} (f : α → Nat) (p : α → Bool) : (xs : List α) → wl f (xs.filter p) ≤ wl f xs
 | [] => Nat.le_refl _
 | x :: xs => by
   have := wl_filter f p xs; rw [List.filter_cons]
   split
   · rw [wl_cons, wl_cons]; omega
   · rw [wl_cons]; omega
theorem all_small (xs : List BunR) (c : Int) (ms : MemL) (id : Int) (h : xs.length + wl W_iiiLiiisE xs ≤ 1048576) : (allR xs c ms id).length ≤ 60 ∧ wl W_iiis (allR xs c ms id) ≤ 3600 := by
 have hll : ∀ l ∈ (withOf xs c ms id).map (bunItems xs c), l.1.length ≤ 1048576 := fun l hl => by
   obtain ⟨d, _, rfl⟩ := List.mem_map.1 hl; exact bunItems_len xs c h d
 have := items_small _ (union_items _ (out := []) nil_items hll); unfold allR wholeR; exact ⟨Nat.le_trans (List.length_filter_le _ _) this.1, Nat.le_trans (wl_filter _ _ _) this.2⟩
theorem rest_small (xs : List BunR) (c : Int) (ms : MemL) (id heard : Int) (h : xs.length + wl W_iiiLiiisE xs ≤ 1048576) : (restR xs c ms id heard).length ≤ 60 ∧ wl W_iiis (restR xs c ms id heard) ≤ 3600 := by
 have := all_small xs c ms id h; unfold restR
 cases bunAt xs c id with
 | none => exact ⟨Nat.zero_le _, Nat.zero_le _⟩
 | some mine =>
   show (bif decide (mine.2.2.1 = 0) then [] else (allR xs c ms id).filter fun r => decide (heard < r.1)).length ≤ 60 ∧ wl W_iiis (bif decide (mine.2.2.1 = 0) then [] else (allR xs c ms id).filter fun r => decide (heard < r.1)) ≤ 3600
   cases decide (mine.2.2.1 = 0)
   · exact ⟨Nat.le_trans (List.length_filter_le _ _) this.1, Nat.le_trans (wl_filter _ _ _) this.2⟩
   · exact ⟨Nat.zero_le _, Nat.zero_le _⟩
end Go.TM
