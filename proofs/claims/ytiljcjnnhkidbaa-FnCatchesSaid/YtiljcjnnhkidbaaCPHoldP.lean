/- What a member does that holds a token, said plainly. -/
import Derived.Test.YtiljcjnnhkidbaaCPLacks
set_option linter.unusedSimpArgs false
set_option linter.unusedVariables false
namespace Go.TM
open Go
theorem has_iff {xs : ItemL} {s : Int} : hasB xs s = true ↔ ∃ r ∈ xs, r.1 = s := by
 unfold hasB itemAt; rw [List.find?_isSome]; simp only [decide_eq_true_eq]
theorem putR_keep {r m : ItemR} : {xs : ItemL} → r ∈ xs → r ∈ putR xs m
 | [], h => by cases h
 | x :: xs, h => by
   unfold putR
   split
   · rcases List.mem_cons.1 h with rfl | h
     · exact List.mem_cons_self
     · exact List.mem_cons_of_mem _ (putR_keep h)
   · split
     · exact h
     · exact List.mem_cons_of_mem _ h
theorem putR_new {m : ItemR} : {xs : ItemL} → ∃ r ∈ putR xs m, r.1 = m.1
 | [] => ⟨m, by unfold putR; exact List.mem_cons_self, rfl⟩
 | x :: xs => by
   unfold putR
   split
   · obtain ⟨r, h1, h2⟩ := putR_new (m := m) (xs := xs); exact ⟨r, List.mem_cons_of_mem _ h1, h2⟩
   · split
     · rename_i e; exact ⟨x, List.mem_cons_self, e⟩
     · exact ⟨m, List.mem_cons_self, rfl⟩
theorem aru_mono {xs ys : ItemL} (hx : xs.length ≤ 1048576) (hy : ys.length ≤ 1048576) (h : ∀ r ∈ xs, ∃ q ∈ ys, q.1 = r.1) : aruOf xs ≤ aruOf ys := by
 obtain ⟨_, a1, _⟩ := (aru_ok xs hx).2.2; obtain ⟨_, _, b2⟩ := (aru_ok ys hy).2.2
 by_cases hlt : aruOf ys < aruOf xs
 · have h1 := a1 _ hlt; obtain ⟨r, hr, e⟩ := has_iff.1 h1; obtain ⟨q, hq, e2⟩ := h r hr; have : hasB ys ((aruOf ys + 1 : Nat) : Int) = true := has_iff.2 ⟨q, hq, e2.trans e⟩; unfold hasB at this; rw [b2] at this
   cases this
 · omega
def putAll (xs : ItemL) (fs : ItemL) : ItemL := fs.foldl putR xs
theorem putAll_items : (fs : ItemL) → {xs : ItemL} → ItemsP xs xs.length → (∀ f ∈ fs, ItemP f) → ItemsP (putAll xs fs) (putAll xs fs).length
 | [], _, h, _ => h
 | f :: fs, _, h, hf => putAll_items fs (putR_items h (hf f List.mem_cons_self)) fun g hg => hf g (List.mem_cons_of_mem _ hg)
theorem putAll_keep {r : ItemR} : (fs : ItemL) → {xs : ItemL} → r ∈ xs → r ∈ putAll xs fs
 | [], _, h => h
 | _ :: fs, _, h => putAll_keep fs (putR_keep h)
theorem numItem_ok {c2 d : Int} {lv : MemL} {tx : List (ByteArray × Unit)} {k j : Nat} (hc : 0 ≤ c2 ∧ c2 + ((k : Nat) : Int) ≤ 60) (hd : 1 ≤ d ∧ d ≤ 5) (hk : k ≤ tx.length) (hs : ShortOk tx tx.length) (hj : j < k) : ItemP (numItem c2 d lv tx j) := by
 have h1 : j < tx.length := by omega
 have hgt : (tx.getD j (ByteArray.empty, ())).1 = tx[j].1 := by rw [List.getD_eq_getElem?_getD, List.getElem?_eq_getElem h1, Option.getD_some]
 refine ⟨⟨?_, ?_⟩, hd, ?_, ?_⟩
 · show 1 ≤ c2 + ((j + 1 : Nat) : Int); omega
 · show c2 + ((j + 1 : Nat) : Int) ≤ 60; omega
 · show 1 ≤ (bif decide (j < lv.length) && decide ((lv.getD j ((0 : Int), ())).1 = 2) then (2 : Int) else 1) ∧ (bif decide (j < lv.length) && decide ((lv.getD j ((0 : Int), ())).1 = 2) then (2 : Int) else 1) ≤ 2
   cases decide (j < lv.length) && decide ((lv.getD j ((0 : Int), ())).1 = 2) <;> decide
 · show ByteArray.size (tx.getD j (ByteArray.empty, ())).1 ≤ 60; rw [hgt]; exact hs j h1 h1
theorem numItems_ok {c2 d : Int} {lv : MemL} {tx : List (ByteArray × Unit)} {k : Nat} (hc : 0 ≤ c2 ∧ c2 + ((k : Nat) : Int) ≤ 60) (hd : 1 ≤ d ∧ d ≤ 5) (hk : k ≤ tx.length) (hs : ShortOk tx tx.length) : ∀ f ∈ numItems c2 d lv tx k, ItemP f := by
 intro f hf; unfold numItems at hf; obtain ⟨j, hj, rfl⟩ := List.mem_map.1 hf; exact numItem_ok hc hd hk hs (List.mem_range.1 hj)
def giveL (t : TokR) (xs : ItemL) : ItemL := xs.filter fun r => decide (r.1 ∈ intsOf t.2.2.2.2.2.1)
theorem give_val (t : TokR) (xs : ItemL) (h : xs.length ≤ 1048576) (hw : t.2.2.2.2.2.1.length ≤ 1048576) : spec_Give t.1 t.2.1 t.2.2.1 t.2.2.2.1 t.2.2.2.2.1 t.2.2.2.2.2.1 xs = some (giveL t xs, ()) ∧ impl_Give t.1 t.2.1 t.2.2.1 t.2.2.2.1 t.2.2.2.2.1 t.2.2.2.2.2.1 xs = some (giveL t xs, ()) := by
 have hlen : ∀ k, ((xs.take k).filter fun r => decide (r.1 ∈ intsOf t.2.2.2.2.2.1)).length ≤ k := fun k => Nat.le_trans (List.length_filter_le _ _) (List.length_take_le _ _)
 constructor
 · have hl := loop_run (round := spec_Give_r0) (e := .inl (giveL t xs, ())) xs.length (fun k => (xs, t.1, t.2.1, t.2.2.1, t.2.2.2.1, t.2.2.2.2.1, t.2.2.2.2.2.1, (xs.take k).filter (fun r => decide (r.1 ∈ intsOf t.2.2.2.2.2.1)), ((k : Nat) : Int), ())) (by
     simp only [spec_Give_r0, spec_Give_c0, lt_nat_irr, cond_false, List.take_length, giveL]) (fun k hk => by
     have hk2 := hlen k; simp only [spec_Give_r0, spec_Give_c0, lt_nat_true hk, zero_le_nat, cond_true, toNat_nat, List.getElem?_eq_getElem hk, Option.bind_some, in_val _ _ hw, ble_true (show (((xs.take k).filter fun r => decide (r.1 ∈ intsOf t.2.2.2.2.2.1)).length + 1) * 40 ≤ lim by unfold lim; omega), succ_wrap (show k < 4611686018427387904 by omega)]; rw [List.take_succ_eq_append_getElem hk, List.filter_append]
     cases hp : decide (xs[k].1 ∈ intsOf t.2.2.2.2.2.1)
     · rw [List.filter_cons_of_neg (by rw [hp]; simp)]; simp
     · rw [List.filter_cons_of_pos (by rw [hp])]; rfl)
   have hl : loopV spec_Give_r0 (xs, t.1, t.2.1, t.2.2.1, t.2.2.2.1, t.2.2.2.2.1, t.2.2.2.2.2.1, [], (0 : Int), ()) = _ := hl; unfold spec_Give; rw [hl]; rfl
 · have hl := loop_run (round := impl_Give_r0) (e := .inl (giveL t xs, ())) xs.length (fun k => (t.1, t.2.1, t.2.2.1, t.2.2.2.1, t.2.2.2.2.1, t.2.2.2.2.2.1, (xs.take k).filter (fun r => decide (r.1 ∈ intsOf t.2.2.2.2.2.1)), xs, ((List.length xs : Nat) : Int), ((k : Nat) : Int), ())) (by
     simp only [impl_Give_r0, impl_Give_c0, lt_nat_irr, cond_false, List.take_length, giveL]) (fun k hk => by
     have hk2 := hlen k; simp only [impl_Give_r0, impl_Give_c0, lt_nat_true hk, zero_le_nat, cond_true, toNat_nat, List.getElem?_eq_getElem hk, Option.bind_some, contains_val _ _ hw, ble_true (show (((xs.take k).filter fun r => decide (r.1 ∈ intsOf t.2.2.2.2.2.1)).length + 1) * 40 ≤ lim by unfold lim; omega), succ_wrap (show k < 4611686018427387904 by omega)]; rw [List.take_succ_eq_append_getElem hk, List.filter_append]
     cases hp : decide (xs[k].1 ∈ intsOf t.2.2.2.2.2.1)
     · rw [List.filter_cons_of_neg (by rw [hp]; simp)]; simp
     · rw [List.filter_cons_of_pos (by rw [hp])]; rfl)
   have hl : loopV impl_Give_r0 (t.1, t.2.1, t.2.2.1, t.2.2.2.1, t.2.2.2.2.1, t.2.2.2.2.2.1, [], xs, ((List.length xs : Nat) : Int), (0 : Int), ()) = _ := hl; unfold impl_Give; rw [hl]; rfl
theorem give_mem {t : TokR} {xs : ItemL} {r : ItemR} (h : r ∈ giveL t xs) : r ∈ xs := (List.mem_filter.1 h).1
theorem give_len (t : TokR) (xs : ItemL) : (giveL t xs).length ≤ xs.length := List.length_filter_le _ _
end Go.TM
