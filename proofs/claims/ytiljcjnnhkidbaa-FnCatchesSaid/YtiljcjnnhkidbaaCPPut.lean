/- An item put into right items, of the program and of the reference; Catch. -/
import Derived.Test.YtiljcjnnhkidbaaCPRec
set_option linter.unusedSimpArgs false
set_option linter.unusedVariables false
namespace Go.TM
open Go
def putR : ItemL → ItemR → ItemL
 | [], m => [m]
 | r :: xs, m => if r.1 < m.1 then r :: putR xs m else if r.1 = m.1 then r :: xs else m :: r :: xs
def Srt (xs : ItemL) : Prop := xs.Pairwise fun a b => a.1 < b.1
def posR (xs : ItemL) (m : ItemR) : Nat := (xs.takeWhile fun r => decide (r.1 < m.1)).length
theorem posR_le (xs : ItemL) (m : ItemR) : posR xs m ≤ xs.length := (List.takeWhile_sublist _).length_le
theorem posR_cons (r : ItemR) (xs : ItemL) (m : ItemR) : posR (r :: xs) m = if r.1 < m.1 then posR xs m + 1 else 0 := by
 unfold posR; rw [List.takeWhile_cons]
 by_cases h : r.1 < m.1
 · simp [h]
 · simp [h]
theorem putR_pos (m : ItemR) : (xs : ItemL) → putR xs m = if h : posR xs m < xs.length then (if xs[posR xs m].1 = m.1 then xs else xs.take (posR xs m) ++ ([m] ++ xs.drop (posR xs m))) else xs.take (posR xs m) ++ ([m] ++ xs.drop (posR xs m))
 | [] => rfl
 | r :: xs => by
   have ih := putR_pos m xs; unfold putR
   by_cases h : r.1 < m.1
   · rw [if_pos h, ih]; have hp : posR (r :: xs) m = posR xs m + 1 := by rw [posR_cons, if_pos h]
     by_cases h2 : posR xs m < xs.length
     · have h3 : posR (r :: xs) m < (r :: xs).length := by rw [hp, List.length_cons]; omega
       rw [dif_pos h2, dif_pos h3]; have e : (r :: xs)[posR (r :: xs) m] = xs[posR xs m] := by simp [hp]
       rw [e]
       by_cases h4 : xs[posR xs m].1 = m.1
       · rw [if_pos h4, if_pos h4]
       · rw [if_neg h4, if_neg h4, hp]; rfl
     · have h3 : ¬ posR (r :: xs) m < (r :: xs).length := by rw [hp, List.length_cons]; omega
       rw [dif_neg h2, dif_neg h3, hp]; rfl
   · rw [if_neg h]; have hp : posR (r :: xs) m = 0 := by rw [posR_cons, if_neg h]
     have h3 : posR (r :: xs) m < (r :: xs).length := by rw [hp, List.length_cons]; omega
     rw [dif_pos h3]; have e : (r :: xs)[posR (r :: xs) m] = r := by simp [hp]
     rw [e, hp]; rfl
theorem srt_of {xs : ItemL} (h : ItemsP xs xs.length) : Srt xs := by
 have key : ∀ (d i : Nat) (hi : i + d + 1 < xs.length), xs[i].1 < xs[i + d + 1].1 := by
   intro d
   induction d with
   | zero => intro i hi; exact (h (i + 1) hi hi).2 (by omega)
   | succ d ih =>
     intro i hi; have h1 := ih i (by omega); have h2 := (h (i + (d + 1) + 1) hi hi).2 (by omega); have e : i + (d + 1) + 1 - 1 = i + d + 1 := by omega
     simp only [e] at h2; omega
 unfold Srt; rw [List.pairwise_iff_getElem]; intro i j hi hj hij; have := key (j - i - 1) i (by omega); simpa [show i + (j - i - 1) + 1 = j by omega] using this
theorem items_of {xs : ItemL} (h : Srt xs) (hi : ∀ r ∈ xs, ItemP r) : ItemsP xs xs.length := by
 intro k hk _; refine ⟨hi _ (List.getElem_mem hk), fun h0 => ?_⟩; unfold Srt at h; rw [List.pairwise_iff_getElem] at h; exact h (k - 1) k (by omega) hk (by omega)
theorem items_mem {xs : ItemL} (h : ItemsP xs xs.length) : ∀ r ∈ xs, ItemP r := by
 intro r hr; obtain ⟨k, hk, rfl⟩ := List.mem_iff_getElem.1 hr; exact (h k hk hk).1
theorem putR_mem {r m : ItemR} : {xs : ItemL} → r ∈ putR xs m → r = m ∨ r ∈ xs
 | [], h => by
   unfold putR at h; exact .inl (List.mem_singleton.1 h)
 | x :: xs, h => by
   unfold putR at h
   split at h
   · rcases List.mem_cons.1 h with rfl | h
     · exact .inr List.mem_cons_self
     · exact (putR_mem h).imp id (List.mem_cons_of_mem _)
   · split at h
     · exact .inr h
     · rcases List.mem_cons.1 h with rfl | h
       · exact .inl rfl
       · exact .inr h
theorem putR_srt {m : ItemR} : {xs : ItemL} → Srt xs → Srt (putR xs m)
 | [], _ => by unfold putR Srt; simp
 | x :: xs, h => by
   unfold Srt at h; rw [List.pairwise_cons] at h; unfold putR
   split
   · rename_i hlt; unfold Srt; rw [List.pairwise_cons]; refine ⟨fun y hy => ?_, putR_srt h.2⟩; rcases putR_mem hy with rfl | hy
     · exact hlt
     · exact h.1 y hy
   · split
     · unfold Srt; rw [List.pairwise_cons]; exact h
     · unfold Srt; rw [List.pairwise_cons, List.pairwise_cons]; refine ⟨fun y hy => ?_, h⟩; rcases List.mem_cons.1 hy with rfl | hy
       · omega
       · have := h.1 y hy; omega
theorem putR_items {xs : ItemL} {m : ItemR} (h : ItemsP xs xs.length) (hm : ItemP m) : ItemsP (putR xs m) (putR xs m).length :=
 items_of (putR_srt (srt_of h)) fun r hr => (putR_mem hr).elim (fun e => e ▸ hm) (items_mem h r)
def lessR (xs : ItemL) (m : ItemR) : ItemL := xs.filter fun r => decide (r.1 < m.1)
def moreR (xs : ItemL) (m : ItemR) : ItemL := xs.filter fun r => decide (m.1 < r.1)
def hasR (xs : ItemL) (s : Int) : Bool := xs.any fun r => decide (r.1 = s)
theorem put_spec_eq (m : ItemR) : (xs : ItemL) → Srt xs → putR xs m = bif hasR xs m.1 then xs else lessR xs m ++ [m] ++ moreR xs m
 | [], _ => rfl
 | r :: xs, h => by
   unfold Srt at h; rw [List.pairwise_cons] at h; have ih := put_spec_eq m xs h.2; unfold putR
   by_cases h1 : r.1 < m.1
   · rw [if_pos h1, ih]; have e1 : hasR (r :: xs) m.1 = hasR xs m.1 := by unfold hasR; rw [List.any_cons, dec_false (show ¬ r.1 = m.1 by omega)]; rfl
     have e2 : lessR (r :: xs) m = r :: lessR xs m := by unfold lessR; rw [List.filter_cons, if_pos (dec_true h1)]
     have e3 : moreR (r :: xs) m = moreR xs m := by unfold moreR; rw [List.filter_cons, if_neg (by rw [decide_eq_true_eq]; omega)]
     rw [e1, e2, e3]
     cases hasR xs m.1 <;> rfl
   · rw [if_neg h1]
     by_cases h2 : r.1 = m.1
     · have e1 : hasR (r :: xs) m.1 = true := by unfold hasR; rw [List.any_cons, dec_true h2]; rfl
       rw [if_pos h2, e1]; rfl
     · rw [if_neg h2]; have hall : ∀ y ∈ r :: xs, m.1 < y.1 := by
         intro y hy; rcases List.mem_cons.1 hy with rfl | hy
         · omega
         · have := h.1 y hy; omega
       have e1 : hasR (r :: xs) m.1 = false := by
         unfold hasR; rw [List.any_eq_false]; intro y hy; have := hall y hy; rw [decide_eq_true_eq]; omega
       have e2 : lessR (r :: xs) m = [] := by
         unfold lessR; rw [List.filter_eq_nil_iff]; intro y hy; have := hall y hy; rw [decide_eq_true_eq]; omega
       have e3 : moreR (r :: xs) m = r :: xs := by
         unfold moreR; rw [List.filter_eq_self]; intro y hy; exact dec_true (hall y hy)
       rw [e1, e2, e3]; rfl
theorem putItem_spec (xs : ItemL) (m : ItemR) (h : xs.length ≤ 1048576) (hi : itemsB xs = true) (hm : itemB m = true) : spec_PutItem xs m.1 m.2.1 m.2.2.1 m.2.2.2.1 = some (putR xs m, ()) := by
 obtain ⟨k1, _, k3⟩ := items_ok xs h; obtain ⟨q1, _, _⟩ := item_ok m; have hs := srt_of (k3.1 hi); have hlen : ∀ k, (lessR (xs.take k) m).length ≤ k := fun k => Nat.le_trans (List.length_filter_le _ _) (by rw [List.length_take]; omega)
 have hlen2 : ∀ k, (moreR (xs.take k) m).length ≤ k := fun k => Nat.le_trans (List.length_filter_le _ _) (by rw [List.length_take]; omega)
 have l1 := loop_ind (round := spec_PutItem_r0) (n := xs.length) (fun k => (xs, m.1, m.2.1, m.2.2.1, m.2.2.2.1, xs, lessR (xs.take k) m, ((k : Nat) : Int), ())) (fun k => some (bif hasR (xs.drop k) m.1 then .inr (xs, ()) else .inl (xs, m.1, m.2.1, m.2.2.1, m.2.2.2.1, lessR xs m, ())))
   ⟨.inl (xs, m.1, m.2.1, m.2.2.1, m.2.2.2.1, lessR xs m, ()), by simp only [spec_PutItem_r0, spec_PutItem_c0, lt_nat_irr, cond_false, List.take_length], by rw [List.drop_length]; rfl⟩ (fun k hk => by
     have e : hasR (xs.drop k) m.1 = (decide (xs[k].1 = m.1) || hasR (xs.drop (k + 1)) m.1) := by unfold hasR; rw [List.drop_eq_getElem_cons hk, List.any_cons]
     have e2 : lessR (xs.take (k + 1)) m = lessR (xs.take k) m ++ (if decide (xs[k].1 < m.1) = true then [xs[k]] else []) := by
       unfold lessR; rw [List.take_succ_eq_append_getElem hk, List.filter_append, List.filter_cons]
       split <;> rfl
     have hb : Nat.ble (((lessR (xs.take k) m).length + 1) * 40) lim = true := ble_true (by have := hlen k; unfold lim; omega); simp only [spec_PutItem_r0, spec_PutItem_c0, lt_nat_true hk, zero_le_nat, cond_true, toNat_nat, List.getElem?_eq_getElem hk, Option.bind_some, succ_wrap (show k < 4611686018427387904 by omega), hb, e, e2]
     by_cases h1 : xs[k].1 = m.1
     · rw [dec_true h1]; exact .inl ⟨_, rfl, rfl⟩
     · rw [dec_false h1]; refine .inr ⟨?_, rfl⟩
       by_cases h2 : xs[k].1 < m.1
       · rw [dec_true h2]; rfl
       · rw [dec_false h2, if_neg (by decide), List.append_nil]; rfl) 0 (Nat.zero_le _)
 have l1 : loopV spec_PutItem_r0 (xs, m.1, m.2.1, m.2.2.1, m.2.2.2.1, xs, [], (0 : Int), ()) = _ := l1; rw [List.drop_zero] at l1; have l2 := loop_run (round := spec_PutItem_r2) (e := .inl (lessR xs m ++ [m] ++ moreR xs m, ())) xs.length (fun k => (xs, m.1, m.2.1, m.2.2.1, m.2.2.2.1, lessR xs m ++ [m] ++ moreR (xs.take k) m, ((k : Nat) : Int), ())) (by
   simp only [spec_PutItem_r2, spec_PutItem_c2, lt_nat_irr, cond_false, List.take_length]) (fun k hk => by
     have e2 : moreR (xs.take (k + 1)) m = moreR (xs.take k) m ++ (if decide (m.1 < xs[k].1) = true then [xs[k]] else []) := by
       unfold moreR; rw [List.take_succ_eq_append_getElem hk, List.filter_append, List.filter_cons]
       split <;> rfl
     have hb : Nat.ble (((lessR xs m ++ [m] ++ moreR (xs.take k) m).length + 1) * 40) lim = true := ble_true (by
       have h1 := hlen xs.length; rw [List.take_length] at h1; have h2 := hlen2 k; simp only [List.length_append, List.length_cons, List.length_nil]; unfold lim; omega)
     simp only [spec_PutItem_r2, spec_PutItem_c2, lt_nat_true hk, zero_le_nat, cond_true, toNat_nat, List.getElem?_eq_getElem hk, Option.bind_some, succ_wrap (show k < 4611686018427387904 by omega), hb, e2]
     by_cases h2 : m.1 < xs[k].1
     · rw [dec_true h2, if_pos rfl, ← List.append_assoc]; rfl
     · rw [dec_false h2, if_neg (by decide), List.append_nil]; rfl)
 have l2 : loopV spec_PutItem_r2 (xs, m.1, m.2.1, m.2.2.1, m.2.2.2.1, lessR xs m ++ [m] ++ moreR (xs.take 0) m, (0 : Int), ()) = _ := l2; rw [show moreR (xs.take 0) m = [] from rfl, List.append_nil] at l2; have hb1 : Nat.ble ((0 + xs.length) * 40) lim = true := ble_true (by unfold lim; omega); have hb2 : Nat.ble (((lessR xs m).length + 1) * 40) lim = true := ble_true (by
   have h1 := hlen xs.length; rw [List.take_length] at h1; unfold lim; omega)
 rw [put_spec_eq m xs hs]; unfold spec_PutItem; simp only [k1, q1, hi, hm, hb1, cond_true, Bool.not_true, cond_false, Option.bind_some, List.nil_append, l1]
 cases hasR xs m.1
 · have l3 : loopV spec_PutItem_r2 (xs, m.1, m.2.1, m.2.2.1, m.2.2.2.1, lessR xs m ++ [(m.1, m.2.1, m.2.2.1, m.2.2.2.1, ())], (0 : Int), ()) = _ := l2; simp only [cond_false, outK, Option.bind_some, hb2, cond_true, l3]
 · rfl
theorem putItem_impl (xs : ItemL) (m : ItemR) (h : xs.length ≤ 1048576) : impl_putItem xs m.1 m.2.1 m.2.2.1 m.2.2.2.1 = some (putR xs m, ()) := by
 have l1 := loop_ind (round := impl_putItem_r0) (n := xs.length) (fun k => (xs, m.1, m.2.1, m.2.2.1, m.2.2.2.1, ((k : Nat) : Int), ())) (fun k => some (.inl (xs, m.1, m.2.1, m.2.2.1, m.2.2.2.1, ((k + posR (xs.drop k) m : Nat) : Int), ())))
   ⟨.inl (xs, m.1, m.2.1, m.2.2.1, m.2.2.2.1, ((xs.length : Nat) : Int), ()), by simp only [impl_putItem_r0, impl_putItem_c0, lt_nat_irr, cond_false], by rw [List.drop_length]; rfl⟩ (fun k hk => by
     have e : posR (xs.drop k) m = if xs[k].1 < m.1 then posR (xs.drop (k + 1)) m + 1 else 0 := by rw [List.drop_eq_getElem_cons hk, posR_cons]
     simp only [impl_putItem_r0, impl_putItem_c0, lt_nat_true hk, zero_le_nat, cond_true, toNat_nat, blt_true hk, List.getElem?_eq_getElem hk, Option.bind_some, succ_wrap (show k < 4611686018427387904 by omega), e]
     by_cases h1 : xs[k].1 < m.1
     · rw [dec_true h1, if_pos h1]; exact .inr ⟨rfl, by rw [show k + (posR (xs.drop (k + 1)) m + 1) = k + 1 + posR (xs.drop (k + 1)) m by omega]⟩
     · rw [dec_false h1, if_neg h1]; exact .inl ⟨_, rfl, rfl⟩) 0 (Nat.zero_le _)
 have l1 : loopV impl_putItem_r0 (xs, m.1, m.2.1, m.2.2.1, m.2.2.2.1, (0 : Int), ()) = _ := l1; rw [List.drop_zero, Nat.zero_add] at l1; have hp := posR_le xs m; have hins : insT xs ((posR xs m : Nat) : Int) [(m.1, m.2.1, m.2.2.1, m.2.2.2.1, ())] = some (xs.take (posR xs m) ++ ([m] ++ xs.drop (posR xs m)), ()) := by
   unfold insT; rw [zero_le_nat, dec_true (show ((posR xs m : Nat) : Int) ≤ ((xs.length : Nat) : Int) by omega), ble_true (show (xs.length + 1) * 40 ≤ lim by unfold lim; omega)]; rfl
 rw [putR_pos]; unfold impl_putItem; simp only [l1, outK, hins, Option.bind_some]
 by_cases h1 : posR xs m < xs.length
 · simp only [dif_pos h1, lt_nat_true h1, zero_le_nat, toNat_nat, blt_true h1, cond_true, List.getElem?_eq_getElem h1, Option.bind_some]
   by_cases h2 : xs[posR xs m].1 = m.1
   · rw [dec_true h2, if_pos h2]; rfl
   · rw [dec_false h2, if_neg h2]; rfl
 · rw [dif_neg h1, dec_false (show ¬ ((posR xs m : Nat) : Int) < ((xs.length : Nat) : Int) by omega)]; rfl
noncomputable def putB (xs : ItemL) (m : ItemR) : ItemL := bif itemsB xs && itemB m then putR xs m else xs
theorem putItem_same (xs : ItemL) (m : ItemR) (h : xs.length ≤ 1048576) : spec_PutItem xs m.1 m.2.1 m.2.2.1 m.2.2.2.1 = some (putB xs m, ()) ∧ impl_PutItem xs m.1 m.2.1 m.2.2.1 m.2.2.2.1 = some (putB xs m, ()) := by
 obtain ⟨k1, k2, _⟩ := items_ok xs h; obtain ⟨q1, q2, _⟩ := item_ok m; have hb1 : Nat.ble ((0 + xs.length) * 40) lim = true := ble_true (by unfold lim; omega); unfold putB
 constructor
 · cases hi : itemsB xs
   · unfold spec_PutItem; simp only [k1, hi, hb1, cond_true, Option.bind_some]; rfl
   · cases hm : itemB m
     · unfold spec_PutItem; simp only [k1, q1, hi, hm, hb1, cond_true, Option.bind_some]; rfl
     · exact putItem_spec xs m h hi hm
 · unfold impl_PutItem; simp only [k2, q2, clone_items xs h, Option.bind_some, putItem_impl xs m h]
   cases itemsB xs <;> cases itemB m <;> rfl
def withItems (m : MatR) (xs : ItemL) : MatR := (m.1, m.2.1, m.2.2.1, xs, m.2.2.2.2)
noncomputable def catchR (m : MatR) (x : ItemR) : MatR := bif matB m then withItems m (putB m.2.2.2.1 x) else m
theorem catch_same (m : MatR) (x : ItemR) (h : MatW m ≤ 1048576) : spec_Catch m.1 m.2.1 m.2.2.1 m.2.2.2.1 m.2.2.2.2.1 m.2.2.2.2.2.1 m.2.2.2.2.2.2.1 m.2.2.2.2.2.2.2.1 m.2.2.2.2.2.2.2.2.1 m.2.2.2.2.2.2.2.2.2.1 m.2.2.2.2.2.2.2.2.2.2.1 m.2.2.2.2.2.2.2.2.2.2.2.1 m.2.2.2.2.2.2.2.2.2.2.2.2.1 m.2.2.2.2.2.2.2.2.2.2.2.2.2.1 m.2.2.2.2.2.2.2.2.2.2.2.2.2.2.1 m.2.2.2.2.2.2.2.2.2.2.2.2.2.2.2.1 x.1 x.2.1 x.2.2.1 x.2.2.2.1 = some (catchR m x) ∧ impl_Catch m.1 m.2.1 m.2.2.1 m.2.2.2.1 m.2.2.2.2.1 m.2.2.2.2.2.1 m.2.2.2.2.2.2.1 m.2.2.2.2.2.2.2.1 m.2.2.2.2.2.2.2.2.1 m.2.2.2.2.2.2.2.2.2.1 m.2.2.2.2.2.2.2.2.2.2.1 m.2.2.2.2.2.2.2.2.2.2.2.1 m.2.2.2.2.2.2.2.2.2.2.2.2.1 m.2.2.2.2.2.2.2.2.2.2.2.2.2.1 m.2.2.2.2.2.2.2.2.2.2.2.2.2.2.1 m.2.2.2.2.2.2.2.2.2.2.2.2.2.2.2.1 x.1 x.2.1 x.2.2.1 x.2.2.2.1 = some (catchR m x) := by
 obtain ⟨k1, k2, _⟩ := mat_ok m h; obtain ⟨p1, p2⟩ := copyMate_eq m.1 m.2.1 m.2.2.1 m.2.2.2.1 m.2.2.2.2.1 m.2.2.2.2.2.1 m.2.2.2.2.2.2.1 m.2.2.2.2.2.2.2.1 m.2.2.2.2.2.2.2.2.1 m.2.2.2.2.2.2.2.2.2.1 m.2.2.2.2.2.2.2.2.2.2.1 m.2.2.2.2.2.2.2.2.2.2.2.1 m.2.2.2.2.2.2.2.2.2.2.2.2.1 m.2.2.2.2.2.2.2.2.2.2.2.2.2.1 m.2.2.2.2.2.2.2.2.2.2.2.2.2.2.1 m.2.2.2.2.2.2.2.2.2.2.2.2.2.2.2.1 h; have hl : m.2.2.2.1.length ≤ 1048576 := by unfold MatW at h; omega
 obtain ⟨q1, q2⟩ := putItem_same m.2.2.2.1 x hl; unfold catchR
 constructor
 · unfold spec_Catch; simp only [p1, k1, q1, Option.bind_some]
   cases matB m <;> rfl
 · unfold impl_Catch; simp only [p2, k2, q2, Option.bind_some]
   cases matB m <;> rfl
end Go.TM
