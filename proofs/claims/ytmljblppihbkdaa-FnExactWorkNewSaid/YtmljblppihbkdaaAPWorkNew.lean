/- WorkNew, of the program and of the reference. -/
import Derived.Test.YtmljblppihbkdaaAPBundleAt
set_option linter.unusedSimpArgs false
set_option linter.unusedVariables false
namespace Go.TM
open Go

abbrev MatN : Type := Int × Int × (List (Int × Unit)) × ItemL × (List (Int × Unit)) × (List (ByteArray × Unit)) × Int × Int × Int × Int × Int × Int × Int × Int × Int × (List (Int × Unit)) × Unit
/-- A new member. -/
def mateNew (c : Int) (xs : List (Int × Unit)) (id : Int) : MatN := (id, c, xs, [], [], [], 0, 0, 0, 0, 0, 0, 0, 0, 0, [], ())
theorem mateNew_spec (c : Int) (xs : List (Int × Unit)) (id : Int) (h : xs.length ≤ 1048576) (hr : spec_RingOk c xs = some (true, ())) (hm : (id, ()) ∈ xs) : spec_MateNew id c xs = some (id, c, xs, [], [], [], 0, 0, 0, 0, 0, 0, 0, 0, 0, [], true, ()) := by
  unfold spec_MateNew
  simp only [hr, in_spec _ _ h, dec_true hm, Option.bind_some, Bool.not_true, cond_false, ble_true (show (0 + xs.length) * 8 ≤ lim by unfold lim; omega), cond_true, List.nil_append]
theorem mateNew_impl (c : Int) (xs : List (Int × Unit)) (id : Int) (h : xs.length ≤ 1048576) (hr : impl_RingOk c xs = some (true, ())) (hm : (id, ()) ∈ xs) : impl_MateNew id c xs = some (id, c, xs, [], [], [], 0, 0, 0, 0, 0, 0, 0, 0, 0, [], true, ()) := by
  unfold impl_MateNew impl_copyRing
  simp only [hr, in_impl _ _ h, dec_true hm, Option.bind_some, Bool.not_true, cond_false, clone_int xs h]
theorem map_take {α β : Type} (f : α → β) (xs : List α) {k : Nat} (hk : k < xs.length) : (xs.take (k + 1)).map f = (xs.take k).map f ++ [f xs[k]] := by
  rw [List.take_succ_eq_append_getElem hk, List.map_append]
  rfl
theorem mateNew_size (c : Int) (xs ys : List (Int × Unit)) : wl W_iiLiELiiisELiELsEiiiiiiiiiLiE (ys.map fun m => mateNew c xs m.1) ≤ xs.length * ys.length := by
  have := wl_max W_iiLiELiiisELiELsEiiiiiiiiiLiE xs.length (ys.map fun m => mateNew c xs m.1) (fun x hx => by
    obtain ⟨m, _, rfl⟩ := List.mem_map.1 hx
    have e : W_iiLiELiiisELiELsEiiiiiiiiiLiE (mateNew c xs m.1) = (List.length xs + wl W_i xs) + 0 + 0 + 0 + 0 := rfl
    rw [e, wl_zero W_i (fun _ => rfl)]
    omega)
  rwa [List.length_map] at this

theorem same_WorkNew (r0c0 : Int) (r0c1 : List (Int × Unit)) (h0 : (List.length r0c1 + wl W_i r0c1) ≤ 1048576) : ∃ o0 o1 o2 o3 o4 o5 o6, spec_WorkNew r0c0 r0c1 = some (o0, o1, o2, o3, o4, o5, o6, ()) ∧ impl_WorkNew r0c0 r0c1 = some (o0, o1, o2, o3, o4, o5, o6, ()) ∧ (List.length o1 + wl W_i o1) + (List.length o2 + wl W_iiLiELiiisELiELsEiiiiiiiiiLiE o2) + (List.length o3 + wl W_ibiiiiiLiEiiis o3) + (List.length o4 + wl W_LiiisE o4) + (List.length o5 + wl W_iiis o5) ≤ 1048576 := by
  have h : r0c1.length ≤ 1048576 := by omega
  obtain ⟨b, r1, r2, r3⟩ := ring_same r0c0 r0c1 h
  unfold spec_WorkNew impl_WorkNew
  rw [r1, r2]
  cases b
  · exact ⟨0, [], [], [], [], [], false, rfl, rfl, by decide⟩
  have hr := r3 rfl
  have h8 : Nat.ble ((0 + r0c1.length) * 8) lim = true := ble_true (by unfold lim; omega)
  have l1 := loop_run (round := spec_WorkNew_r0) (e := .inl (r0c0, r0c1, (0 : Int), [], [], [], [], [], r0c0, r0c1, r0c1.map fun m => mateNew r0c0 r0c1 m.1, [], List.replicate r0c1.length ([], ()), [], ())) r0c1.length (fun k => (r0c0, r0c1, (0 : Int), [], [], [], [], [], r0c0, r0c1, (r0c1.take k).map fun m => mateNew r0c0 r0c1 m.1, [], List.replicate k ([], ()), [], ((k : Nat) : Int), ())) (by
    simp only [spec_WorkNew_r0, spec_WorkNew_c0, lt_nat_irr, cond_false, List.take_length]) (fun k hk => by
    simp only [spec_WorkNew_r0, spec_WorkNew_c0, lt_nat_true hk, zero_le_nat, cond_true, toNat_nat, List.getElem?_eq_getElem hk, Option.bind_some, mateNew_spec r0c0 r0c1 r0c1[k].1 h r1 (List.getElem_mem hk), List.length_map, List.length_take, List.length_replicate, Nat.min_eq_left (Nat.le_of_lt hk), ble_true (show (k + 1) * 208 ≤ lim by unfold lim; omega), ble_true (show (k + 1) * 24 ≤ lim by unfold lim; omega), succ_wrap (show k < 4611686018427387904 by omega)]
    rw [map_take _ _ hk, List.replicate_succ']
    rfl)
  have l2 := loop_run (round := impl_WorkNew_r0) (e := .inl (r0c0, r0c1, (0 : Int), [], [], [], [], [], r0c0, r0c1, r0c1.map fun m => mateNew r0c0 r0c1 m.1, [], List.replicate r0c1.length ([], ()), [], ())) r0c1.length (fun k => (r0c0, r0c1, (0 : Int), [], [], [], [], [], r0c0, r0c1, (r0c1.take k).map fun m => mateNew r0c0 r0c1 m.1, [], List.replicate r0c1.length ([], ()), [], r0c1, ((r0c1.length : Nat) : Int), ((k : Nat) : Int), ())) (by
    simp only [impl_WorkNew_r0, impl_WorkNew_c0, lt_nat_irr, cond_false, List.take_length]) (fun k hk => by
    simp only [impl_WorkNew_r0, impl_WorkNew_c0, lt_nat_true hk, zero_le_nat, cond_true, toNat_nat, List.getElem?_eq_getElem hk, Option.bind_some, mateNew_impl r0c0 r0c1 r0c1[k].1 h r2 (List.getElem_mem hk), List.length_map, List.length_take, Nat.min_eq_left (Nat.le_of_lt hk), ble_true (show (k + 1) * 208 ≤ lim by unfold lim; omega), succ_wrap (show k < 4611686018427387904 by omega)]
    rw [map_take _ _ hk]
    rfl)
  have l1 : loopV spec_WorkNew_r0 (r0c0, r0c1, (0 : Int), [], [], [], [], [], r0c0, r0c1, [], [], [], [], (0 : Int), ()) = _ := l1
  have l2 : loopV impl_WorkNew_r0 (r0c0, r0c1, (0 : Int), [], [], [], [], [], r0c0, r0c1, [], [], List.replicate r0c1.length ([], ()), [], r0c1, ((r0c1.length : Nat) : Int), (0 : Int), ()) = _ := l2
  have hc : impl_copyRing r0c0 r0c1 = some (r0c0, r0c1, ()) := by unfold impl_copyRing; rw [clone_int _ h]; rfl
  have f1 : spec_FirstToken r0c0 r0c1 = some (r0c0, 1, 0, 0, 0, [], ()) := by unfold spec_FirstToken; rw [r1]; rfl
  have f2 : impl_FirstToken r0c0 r0c1 = some (r0c0, 1, 0, 0, 0, [], ()) := by unfold impl_FirstToken; rw [r2]; rfl
  have h0' : 0 < r0c1.length := by omega
  have hsz := mateNew_size r0c0 r0c1 r0c1
  have hm : r0c1.length * r0c1.length ≤ 25 := Nat.le_trans (Nat.mul_le_mul hr.2 hr.2) (by decide)
  have hh : wl W_LiiisE (List.replicate r0c1.length ([], ())) = 0 := by
    have := wl_max W_LiiisE 0 (List.replicate r0c1.length ([], ())) (fun x hx => by rw [List.eq_of_mem_replicate hx]; exact Nat.le_refl _)
    omega
  refine ⟨r0c0, r0c1, r0c1.map fun m => mateNew r0c0 r0c1 m.1, [(r0c1[0].1, true, r0c0, 1, 0, 0, 0, [], 0, 0, 0, ByteArray.empty, ())], List.replicate r0c1.length ([], ()), [], true, ?_, ?_, ?_⟩
  · simp only [h8, Option.bind_some, Bool.not_true, cond_false, cond_true, List.nil_append, l1, outK, List.getElem?_eq_getElem h0', f1]
  · simp only [hc, both_self, Option.bind_some, Bool.not_true, cond_false, decide_true, cond_true, zero_le_nat, toNat_nat, ble_true (show r0c1.length * 24 ≤ lim by unfold lim; omega), l2, outK, List.getElem?_eq_getElem h0', f2]
  · simp only [List.length_map, List.length_replicate, List.length_cons, List.length_nil, hh, wl_zero W_i (fun _ => rfl), wl_cons, wl_nil]
    have e : W_ibiiiiiLiEiiis (r0c1[0].1, true, r0c0, 1, 0, 0, 0, [], 0, 0, 0, ByteArray.empty, ()) = 0 := rfl
    rw [e]
    omega
end Go.TM
