/- The members of a drawn ring come one behind the other, and around. -/
import Derived.Test.YtoblacbibdgddaaPDrawRing
set_option linter.unusedSimpArgs false
set_option linter.unusedVariables false
namespace Go.TM
open Go

theorem sameInts_self (l : List (Int × Unit)) (h : l.length ≤ 1048576) : laws_sameInts l l = some (true, ()) := by
  have hl := loop_run (round := laws_sameInts_r0) (e := .inl ()) l.length (fun k => (l, l, ((k : Nat) : Int), ())) (by
      simp only [laws_sameInts_r0, laws_sameInts_c0, lt_nat_irr, cond_false]) (fun k hk => by
      simp only [laws_sameInts_r0, laws_sameInts_c0, lt_nat_true hk, zero_le_nat, cond_true, cond_false, toNat_nat, List.getElem?_eq_getElem hk, Option.bind_some, decide_true, Bool.not_true, succ_wrap (show k < 4611686018427387904 by omega)])
  have hl : loopV laws_sameInts_r0 (l, l, (0 : Int), ()) = _ := hl
  unfold laws_sameInts
  simp only [decide_true, Bool.not_true, cond_false, hl, outK_inl]

theorem token_first {c : Int} (h1 : 1 ≤ c) (h2 : c ≤ 9) : impl_TokenOk c 1 0 0 0 [] = some (true, ()) := by
  have hl := loop_run (round := impl_TokenOk_r0) (e := .inl (c, 1, 0, 0, 0, [], ())) 0 (fun k => (c, 1, 0, 0, 0, [], [], ((List.length ([] : List (Int × Unit)) : Nat) : Int), ((k : Nat) : Int), ())) (by
    simp only [impl_TokenOk_r0, impl_TokenOk_c0, List.length_nil, lt_nat_irr, cond_false]) (fun k hk => by omega)
  have hl : loopV impl_TokenOk_r0 (c, 1, 0, 0, 0, [], [], ((List.length ([] : List (Int × Unit)) : Nat) : Int), (0 : Int), ()) = _ := hl
  unfold impl_TokenOk
  simp only [in_eq', dec_true h1, dec_true h2, Bool.and_self, Bool.not_true, cond_false, Option.bind_some, hl, outK_inl]
  rfl

theorem rings_law (code : List (Int × Unit)) : laws_FnRings code = some (true, ()) := by
  unfold laws_FnRings laws_big
  simp only [Option.bind_some]
  by_cases hb : (1048576 : Int) < ((List.length code : Nat) : Int)
  · rw [dec_true hb]; rfl
  rw [dec_false hb]
  obtain ⟨c, xs, e1, r1, r2, r3⟩ := drawring_ok code (by omega)
  have h3 := r1.some_
  have h4 := r1.len
  have h0 : 0 < xs.length := by omega
  have gd : ∀ k, k < xs.length → ∀ hk : k < xs.length, (xs.getD k ((0 : Int), ())).1 = xs[k].1 := fun k _ hk => by rw [List.getD_eq_getElem?_getD, List.getElem?_eq_getElem hk, Option.getD_some]
  have hl := loop_run (round := laws_FnRings_r0) (e := .inl (c, xs, (xs.getD 0 ((0 : Int), ())).1, xs, ())) xs.length (fun k => (c, xs, (xs.getD (k % xs.length) ((0 : Int), ())).1, xs.take k, ((k : Nat) : Int), ())) (by
    simp only [laws_FnRings_r0, laws_FnRings_c0, lt_nat_irr, cond_false, List.take_length, Nat.mod_self]) (fun k hk => by
    have hm : (k + 1) % xs.length < xs.length := Nat.mod_lt _ h0
    have hk2 : k % xs.length = k := Nat.mod_eq_of_lt hk
    have htl : (xs.take k).length = k := by simp; omega
    simp only [laws_FnRings_r0, laws_FnRings_c0, hk2, gd k hk hk, gd _ hm hm, lt_nat_true hk, cond_true, htl, ble_true (show (k + 1) * 8 ≤ lim by unfold lim; omega), nextof_at r1 hk hm, Option.bind_some, succ_wrap (show k < 4611686018427387904 by omega), List.take_succ_eq_append_getElem hk])
  rw [Nat.zero_mod, gd 0 h0 h0, List.take_zero] at hl
  have hl : loopV laws_FnRings_r0 (c, xs, xs[0].1, [], (0 : Int), ()) = _ := hl
  have hn : impl_NextOf c xs (9 : Int) = some ((0 : Int), ()) := nextof_none (by omega) (fun k hk => by have := r1.rising.2.1 k hk; omega)
  have hf : impl_FirstToken c xs = some (c, (1 : Int), (0 : Int), (0 : Int), (0 : Int), [], ()) := by
    unfold impl_FirstToken
    rw [ringok_true r1]
    rfl
  have h00 : xs[0]? = some xs[0] := List.getElem?_eq_getElem h0
  simp only [cond_false, cond_true, e1, Option.bind_some, blt_true h0, h00, hl, outK_inl, hf, ringok_true r1, sameInts_self xs (by omega), decide_true, hn, token_first r1.id1 r1.id2]
end Go.TM
