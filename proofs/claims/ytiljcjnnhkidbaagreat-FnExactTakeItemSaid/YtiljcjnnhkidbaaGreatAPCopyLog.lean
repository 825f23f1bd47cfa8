/- Copies of logs, of the program and of the reference. -/
import Derived.Test.YtiljcjnnhkidbaaGreatAPItems
set_option linter.unusedSimpArgs false
set_option linter.unusedVariables false
namespace Go.TM
open Go
abbrev EvR : Type := Int × Int × (List (Int × Unit)) × Int × Int × Int × ByteArray × (List (Int × Unit)) × Unit
theorem events_len (xs : List EvR) {k : Nat} (hk : k < xs.length) (h : xs.length + wl W_iiLiEiiisLiE xs ≤ 1048576) : xs[k].2.2.1.length ≤ 1048576 ∧ xs[k].2.2.2.2.2.2.2.1.length ≤ 1048576 := by
 have hw := wl_mem W_iiLiEiiisLiE xs xs[k] (List.getElem_mem hk); have : W_iiLiEiiisLiE xs[k] = (List.length xs[k].2.2.1 + wl W_i xs[k].2.2.1) + ByteArray.size xs[k].2.2.2.2.2.2.1 + (List.length xs[k].2.2.2.2.2.2.2.1 + wl W_i xs[k].2.2.2.2.2.2.2.1) := rfl; omega
theorem copyEvents_spec (xs : List EvR) (h : xs.length + wl W_iiLiEiiisLiE xs ≤ 1048576) : spec_l14CopyEvents xs = some (xs, ()) := by
 have hl := loop_run (round := spec_l14CopyEvents_r0) (e := .inl (xs, ())) xs.length (fun k => (xs, xs.take k, ((k : Nat) : Int), ())) (by
   simp only [spec_l14CopyEvents_r0, spec_l14CopyEvents_c0, lt_nat_irr, cond_false, List.take_length]) (fun k hk => by
   obtain ⟨e1, e2⟩ := events_len xs hk h; simp only [spec_l14CopyEvents_r0, spec_l14CopyEvents_c0, lt_nat_true hk, zero_le_nat, cond_true, toNat_nat, List.getElem?_eq_getElem hk, Option.bind_some, List.length_take, Nat.min_eq_left (Nat.le_of_lt hk), ble_true (show (0 + xs[k].2.2.1.length) * 8 ≤ lim by unfold lim; omega), ble_true (show (0 + xs[k].2.2.2.2.2.2.2.1.length) * 8 ≤ lim by unfold lim; omega), ble_true (show (k + 1) * 104 ≤ lim by unfold lim; omega), succ_wrap (show k < 4611686018427387904 by omega), List.nil_append]; rw [List.take_succ_eq_append_getElem hk])
 have hl : loopV spec_l14CopyEvents_r0 (xs, [], (0 : Int), ()) = _ := hl; unfold spec_l14CopyEvents; rw [hl]; rfl
theorem copyEvents_impl (xs : List EvR) (h : xs.length + wl W_iiLiEiiisLiE xs ≤ 1048576) : impl_copyLog xs = some (xs, ()) := by
 have hl := loop_run (round := impl_copyLog_r0) (e := .inl (xs, ())) xs.length (fun k => (xs.take k, xs, ((xs.length : Nat) : Int), ((k : Nat) : Int), ())) (by
   simp only [impl_copyLog_r0, impl_copyLog_c0, lt_nat_irr, cond_false, List.take_length]) (fun k hk => by
   obtain ⟨e1, e2⟩ := events_len xs hk h; simp only [impl_copyLog_r0, impl_copyLog_c0, impl_copyEvent, impl_copyRing, clone_int _ e1, clone_int _ e2, lt_nat_true hk, zero_le_nat, cond_true, toNat_nat, List.getElem?_eq_getElem hk, Option.bind_some, List.length_take, Nat.min_eq_left (Nat.le_of_lt hk), ble_true (show (k + 1) * 104 ≤ lim by unfold lim; omega), succ_wrap (show k < 4611686018427387904 by omega)]; rw [List.take_succ_eq_append_getElem hk])
 have hl : loopV impl_copyLog_r0 ([], xs, ((xs.length : Nat) : Int), (0 : Int), ()) = _ := hl; unfold impl_copyLog; rw [hl]; rfl
end Go.TM
