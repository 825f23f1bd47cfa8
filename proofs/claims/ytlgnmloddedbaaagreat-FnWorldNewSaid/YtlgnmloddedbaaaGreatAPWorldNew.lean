/- WorldNew, of the program and of the reference. -/
import Derived.Test.YtlgnmloddedbaaaGreatAPRings
set_option linter.unusedSimpArgs false
set_option linter.unusedVariables false
namespace Go.TM
open Go
abbrev RingR : Type := Int × (List (Int × Unit)) × Unit
theorem rings_len (xs : List RingR) {k : Nat} (hk : k < xs.length) (h : xs.length + wl W_iLiE xs ≤ 1048576) : xs[k].2.1.length ≤ 1048576 := by
 have hw := wl_mem W_iLiE xs xs[k] (List.getElem_mem hk); have : W_iLiE xs[k] = List.length xs[k].2.1 + wl W_i xs[k].2.1 := rfl; omega
theorem copyRing_eq (c : Int) (xs : List (Int × Unit)) (h : xs.length ≤ 1048576) : spec_l14CopyRing c xs = some (c, xs, ()) ∧ impl_copyRing c xs = some (c, xs, ()) := by
 constructor
 · unfold spec_l14CopyRing; rw [ble_true (show (0 + xs.length) * 8 ≤ lim by unfold lim; omega)]; rfl
 · unfold impl_copyRing; rw [clone_int _ h]; rfl
theorem copyRings_spec (xs : List RingR) (h : xs.length + wl W_iLiE xs ≤ 1048576) : spec_l15Rings xs = some (xs, ()) := by
 have hl := loop_run (round := spec_l15Rings_r0) (e := .inl (xs, ())) xs.length (fun k => (xs, xs.take k, ((k : Nat) : Int), ())) (by
   simp only [spec_l15Rings_r0, spec_l15Rings_c0, lt_nat_irr, cond_false, List.take_length]) (fun k hk => by
   simp only [spec_l15Rings_r0, spec_l15Rings_c0, lt_nat_true hk, zero_le_nat, cond_true, toNat_nat, List.getElem?_eq_getElem hk, Option.bind_some, (copyRing_eq xs[k].1 xs[k].2.1 (rings_len xs hk h)).1, List.length_take, Nat.min_eq_left (Nat.le_of_lt hk), ble_true (show (k + 1) * 32 ≤ lim by unfold lim; omega), succ_wrap (show k < 4611686018427387904 by omega)]; rw [List.take_succ_eq_append_getElem hk])
 have hl : loopV spec_l15Rings_r0 (xs, [], (0 : Int), ()) = _ := hl; unfold spec_l15Rings; rw [hl]; rfl
abbrev DaeR : Type := Int × Bool × Int × Int × (List (Int × Unit)) × ItemL × (List (Int × Unit)) × (List (ByteArray × Unit)) × Int × Int × Int × Int × Int × Int × Int × Int × Int × (List (Int × Unit)) × Int × Int × Int × (List (Int × Unit)) × (List BunR) × (List (Int × Int × (List (Int × Unit)) × Int × Int × Int × ByteArray × (List (Int × Unit)) × Unit)) × Unit
def daeNew (id : Int) : DaeR := (id, false, 0, 0, [], [], [], [], 0, 0, 0, 0, 0, 0, 0, 0, 0, [], 0, 0, 0, [], [], [], ())
theorem daeNew_spec {id : Int} (h : 1 ≤ id ∧ id ≤ 5) : spec_DaemonNew id = some (id, false, 0, 0, [], [], [], [], 0, 0, 0, 0, 0, 0, 0, 0, 0, [], 0, 0, 0, [], [], [], true, ()) := by
 unfold spec_DaemonNew; rw [in_eq, dec_true h.1, dec_true h.2]; rfl
theorem daeNew_impl {id : Int} (h : 1 ≤ id ∧ id ≤ 5) : impl_DaemonNew id = some (id, false, 0, 0, [], [], [], [], 0, 0, 0, 0, 0, 0, 0, 0, 0, [], 0, 0, 0, [], [], [], true, ()) := by
 unfold impl_DaemonNew; rw [daemon_eq, dec_true h.1, dec_true h.2]; rfl
def daesNew (n : Nat) : List DaeR := (List.range n).map fun (i : Nat) => daeNew ((i : Int) + 1)
theorem daesNew_len (n : Nat) : (daesNew n).length = n := by unfold daesNew; simp
theorem daesNew_succ (n : Nat) : daesNew (n + 1) = daesNew n ++ [daeNew ((n : Int) + 1)] := by unfold daesNew; rw [List.range_succ, List.map_append]; rfl
theorem daes_spec (xs : List RingR) : loopV spec_WorldNew_r0 ([], [], [], [], xs, [], [], [], (1 : Int), ()) = some (.inl ([], [], [], [], xs, daesNew 5, [], [], ())) := by
 have hl := loop_run (round := spec_WorldNew_r0) (e := .inl ([], [], [], [], xs, daesNew 5, [], [], ())) 5 (fun k => ([], [], [], [], xs, daesNew k, [], [], ((k : Nat) : Int) + 1, ())) (by
   simp only [spec_WorldNew_r0, spec_WorldNew_c0]; rw [dec_false (show ¬ ((5 : Nat) : Int) + 1 ≤ 5 by omega)]; rfl) (fun k hk => by
   simp only [spec_WorldNew_r0, spec_WorldNew_c0, dec_true (show ((k : Nat) : Int) + 1 ≤ 5 by omega), cond_true, daeNew_spec (show 1 ≤ ((k : Nat) : Int) + 1 ∧ ((k : Nat) : Int) + 1 ≤ 5 by omega), Option.bind_some, daesNew_len, ble_true (show (k + 1) * 320 ≤ lim by unfold lim; omega), wrap_id (show -9223372036854775808 ≤ ((k : Nat) : Int) + 1 + 1 by omega) (by omega), daesNew_succ]; rfl)
 exact hl
theorem daes_impl (xs : List RingR) : loopV impl_WorldNew_r2 ([], [], [], [], xs, [], [], [], (1 : Int), ()) = some (.inl ([], [], [], [], xs, daesNew 5, [], [], ())) := by
 have hl := loop_run (round := impl_WorldNew_r2) (e := .inl ([], [], [], [], xs, daesNew 5, [], [], ())) 5 (fun k => ([], [], [], [], xs, daesNew k, [], [], ((k : Nat) : Int) + 1, ())) (by
   simp only [impl_WorldNew_r2, impl_WorldNew_c2]; rw [dec_false (show ¬ ((5 : Nat) : Int) + 1 ≤ 5 by omega)]; rfl) (fun k hk => by
   simp only [impl_WorldNew_r2, impl_WorldNew_c2, dec_true (show ((k : Nat) : Int) + 1 ≤ 5 by omega), cond_true, daeNew_impl (show 1 ≤ ((k : Nat) : Int) + 1 ∧ ((k : Nat) : Int) + 1 ≤ 5 by omega), Option.bind_some, daesNew_len, ble_true (show (k + 1) * 320 ≤ lim by unfold lim; omega), wrap_id (show -9223372036854775808 ≤ ((k : Nat) : Int) + 1 + 1 by omega) (by omega), daesNew_succ]; rfl)
 exact hl
theorem rings_impl (xs : List RingR) (h : xs.length + wl W_iLiE xs ≤ 1048576) : loopV impl_WorldNew_r0 ([], [], [], [], [], [], [], [], xs, ((xs.length : Nat) : Int), (0 : Int), ()) = some (.inl ([], [], [], [], xs, [], [], [], ())) := by
 have hl := loop_run (round := impl_WorldNew_r0) (e := .inl ([], [], [], [], xs, [], [], [], ())) xs.length (fun k => ([], [], [], [], xs.take k, [], [], [], xs, ((xs.length : Nat) : Int), ((k : Nat) : Int), ())) (by
   simp only [impl_WorldNew_r0, impl_WorldNew_c0, lt_nat_irr, cond_false, List.take_length]) (fun k hk => by
   simp only [impl_WorldNew_r0, impl_WorldNew_c0, lt_nat_true hk, zero_le_nat, cond_true, toNat_nat, List.getElem?_eq_getElem hk, Option.bind_some, (copyRing_eq xs[k].1 xs[k].2.1 (rings_len xs hk h)).2, List.length_take, Nat.min_eq_left (Nat.le_of_lt hk), ble_true (show (k + 1) * 32 ≤ lim by unfold lim; omega), succ_wrap (show k < 4611686018427387904 by omega)]; rw [List.take_succ_eq_append_getElem hk])
 exact hl
end Go.TM
