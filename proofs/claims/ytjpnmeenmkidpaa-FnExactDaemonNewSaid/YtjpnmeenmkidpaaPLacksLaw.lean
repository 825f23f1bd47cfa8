/- The law of what is lacking. -/
import Derived.Test.YtjpnmeenmkidpaaPDrawItems
set_option linter.unusedSimpArgs false
set_option linter.unusedVariables false
namespace Go.TM
open Go

theorem lawin_val (d : Int) (xs : List (Int × Unit)) (h : xs.length ≤ 1048576) (hd : d ∈ intsOf xs) : laws_in xs d = some (true, ()) := by
  obtain ⟨e, he, hq⟩ := loop_inv (round := laws_in_r0) (x := (xs, d, ((0 : Nat) : Int), ())) xs.length (fun k x => x = (xs, d, ((k : Nat) : Int), ()) ∧ d ∉ intsOf (xs.take k)) (fun e => e = .inr (true, ())) (by
      rintro x ⟨rfl, g⟩
      rw [List.take_length] at g
      exact absurd hd g) (by
      rintro k x hk ⟨rfl, g⟩
      simp only [laws_in_r0, laws_in_c0, lt_nat_true hk, zero_le_nat, cond_true, toNat_nat, List.getElem?_eq_getElem hk, Option.bind_some, succ_wrap (show k < 4611686018427387904 by omega)]
      by_cases e : xs[k].1 = d
      · rw [dec_true e]
        exact .inl ⟨_, rfl, rfl⟩
      · rw [dec_false e]
        refine .inr ⟨_, rfl, rfl, ?_⟩
        rw [List.take_succ_eq_append_getElem hk]
        unfold intsOf at g ⊢
        rw [List.map_append, List.mem_append]
        rintro (h1 | h1)
        · exact g h1
        · simp only [List.map_cons, List.map_nil, List.mem_singleton] at h1
          exact e h1.symm) ⟨rfl, by simp [intsOf]⟩
  subst hq
  have he : loopV laws_in_r0 (xs, d, (0 : Int), ()) = some (.inr (true, ())) := he
  unfold laws_in
  rw [he]
  rfl

theorem sameInts_self (l : List (Int × Unit)) (h : l.length ≤ 1048576) : laws_sameInts l l = some (true, ()) := by
  have hl : loopV laws_sameInts_r0 (l, l, (0 : Int), ()) = some (.inl ()) := by
    have := loop_run (round := laws_sameInts_r0) (e := .inl ()) l.length (fun k => (l, l, ((k : Nat) : Int), ())) (by
      simp only [laws_sameInts_r0, laws_sameInts_c0, lt_nat_irr, cond_false]) (fun k hk => by
      simp only [laws_sameInts_r0, laws_sameInts_c0, lt_nat_true hk, zero_le_nat, cond_true, cond_false, toNat_nat, List.getElem?_eq_getElem hk, Option.bind_some, decide_true, Bool.not_true, succ_wrap (show k < 4611686018427387904 by omega)])
    exact this
  unfold laws_sameInts
  simp only [decide_true, Bool.not_true, cond_false, hl, outK_inl]

theorem rises_ok (l : List Int) (h : l.length ≤ 1048576) (hs : l.Pairwise (· < ·)) : laws_rises (ofInts l) = some (true, ()) := by
  have hlen := ofInts_len l
  have hl : loopV laws_rises_r0 (ofInts l, (1 : Int), ()) = some (.inl ()) := by
    by_cases h0 : l.length = 0
    · have h1 : ¬ (1 : Int) < ((List.length (ofInts l) : Nat) : Int) := by omega
      have := loop_run (round := laws_rises_r0) (e := .inl ()) 0 (fun _ => (ofInts l, (1 : Int), ())) (by
        simp only [laws_rises_r0, laws_rises_c0, dec_false h1, cond_false]) (fun k hk => absurd hk (Nat.not_lt_zero _))
      exact this
    · have := loop_run (round := laws_rises_r0) (e := .inl ()) (l.length - 1) (fun k => (ofInts l, ((k + 1 : Nat) : Int), ())) (by
        simp only [laws_rises_r0, laws_rises_c0, dec_false (show ¬ ((l.length - 1 + 1 : Nat) : Int) < ((List.length (ofInts l) : Nat) : Int) by omega), cond_false]) (fun k hk => by
        have h1 : k < (ofInts l).length := by omega
        have h2 : k + 1 < (ofInts l).length := by omega
        have hp : IntKind.i64.wrap (((k + 1 : Nat) : Int) - (1 : Int)) = ((k : Nat) : Int) := by rw [wrap_id] <;> omega
        have hlt := List.pairwise_iff_getElem.1 hs k (k + 1) (by omega) (by omega) (by omega)
        have g1 := ofInts_get l k h1
        have g2 := ofInts_get l (k + 1) h2
        simp only [laws_rises_r0, laws_rises_c0, lt_nat_true h2, hp, zero_le_nat, cond_true, toNat_nat, List.getElem?_eq_getElem h1, List.getElem?_eq_getElem h2, Option.bind_some, g1, g2, dec_false (show ¬ l[k + 1] ≤ l[k] by omega), cond_false, succ_wrap (show k + 1 < 4611686018427387904 by omega)])
      exact this
  unfold laws_rises
  rw [hl]
  rfl

theorem give_val (t0 t1 t2 t3 t4 : Int) (xs : List (Int × Unit)) (list : ItemL) (h : list.length ≤ 1048576) (hx : xs.length ≤ 1048576) : impl_Give t0 t1 t2 t3 t4 xs list = some (list.filter (fun r => decide (r.1 ∈ intsOf xs)), ()) := by
  have hloop := loop_run (round := impl_Give_r0) (e := .inl (list.filter (fun r => decide (r.1 ∈ intsOf xs)), ())) list.length
    (fun k => (t0, t1, t2, t3, t4, xs, (list.take k).filter (fun r => decide (r.1 ∈ intsOf xs)), list, ((List.length list : Nat) : Int), ((k : Nat) : Int), ())) (by
      simp only [impl_Give_r0, impl_Give_c0, lt_nat_irr, cond_false, List.take_length]) (fun k hk => by
      have hfl : ((list.take k).filter (fun r => decide (r.1 ∈ intsOf xs))).length ≤ 1048576 := by
        have h1 := List.length_filter_le (fun r : ItemR => decide (r.1 ∈ intsOf xs)) (list.take k)
        rw [List.length_take] at h1
        omega
      have hnext : (list.take (k + 1)).filter (fun r => decide (r.1 ∈ intsOf xs)) = (list.take k).filter (fun r => decide (r.1 ∈ intsOf xs)) ++ (if decide (list[k].1 ∈ intsOf xs) then [list[k]] else []) := by
        rw [List.take_succ_eq_append_getElem hk, List.filter_append, List.filter_cons, List.filter_nil]
      simp only [impl_Give_r0, impl_Give_c0, lt_nat_true hk, zero_le_nat, cond_true, toNat_nat, List.getElem?_eq_getElem hk, Option.bind_some, contains_val _ xs hx, ble_true (show (((list.take k).filter (fun r => decide (r.1 ∈ intsOf xs))).length + 1) * 40 ≤ lim by unfold lim; omega), succ_wrap (show k < 4611686018427387904 by omega), hnext]
      cases decide (list[k].1 ∈ intsOf xs)
      · simp
      · rfl)
  have hloop : loopV impl_Give_r0 (t0, t1, t2, t3, t4, xs, [], list, ((List.length list : Nat) : Int), (0 : Int), ()) = _ := hloop
  unfold impl_Give
  rw [hloop]
  rfl

theorem hasB_mem {list : ItemL} {r : ItemR} (h : r ∈ list) : hasB list r.1 = true := by
  unfold hasB itemAt
  rw [List.find?_isSome]
  exact ⟨r, h, by simp⟩

theorem lackL_has {list : ItemL} {xs : List (Int × Unit)} {ms : List Int} (hmp : ∀ s ∈ ms, 1 ≤ s ∧ s ≤ 60 ∧ hasB list s = false) {s : Int} (h : s ∈ lackL list xs ms) : hasB list s = false := by
  unfold lackL at h
  have h := (List.mem_filter.1 (List.mem_of_mem_take h)).2
  unfold lackP at h
  rw [Bool.or_eq_true, Bool.and_eq_true, decide_eq_true_eq] at h
  rcases h with ⟨h, _⟩ | h
  · simpa using h
  · exact (hmp s (of_decide_eq_true h)).2.2

theorem lacks_law (code : List (Int × Unit)) : laws_FnLacks code = some (true, ()) := by
  unfold laws_FnLacks laws_big
  by_cases hb : (1048576 : Int) < ((List.length code : Nat) : Int)
  · rw [dec_true hb]; rfl
  rw [dec_false hb]
  obtain ⟨s0, e0⟩ := new_ok code (by omega)
  obtain ⟨t0, t1, t2, t3, t4, xs, a1, s1, e1, d1, hxs⟩ := anytok_ok code 0 s0 ⟨by omega, by omega, by omega⟩
  obtain ⟨list, a2, s2, e2, hlist, _⟩ := anyitems_ok code a1 s1 d1
  have hd : spec_DrawLacks code = some (t0, t1, t2, t3, t4, xs, list, ()) := by
    unfold spec_DrawLacks
    simp only [e0, e1, e2, Option.bind_some]
  obtain ⟨ms, m1, m2, m3, m4⟩ := missing_same list t2 (by omega)
  have l1 := lacks_spec t0 t1 t2 t3 t4 xs list ms (by omega) (by omega) m1 m3
  have l2 := lacks_impl t0 t1 t2 t3 t4 xs list ms (by omega) (by omega) m2 m3 m4
  have hL : (lackL list xs ms).length ≤ 20 := by unfold lackL; rw [List.length_take]; omega
  have hlen := ofInts_len (lackL list xs ms)
  have r1 := rises_ok (lackL list xs ms) (by omega) (((ints_strict 60).filter _).sublist (List.take_sublist _ _))
  have s1 := sameInts_self (ofInts (lackL list xs ms)) (by omega)
  have g1 := give_val t0 t1 t2 t3 t4 xs list (by omega) (by omega)
  have g2 := give_val t0 t1 t2 t3 t4 (ofInts (lackL list xs ms)) list (by omega) (by omega)
  have hnone : list.filter (fun r => decide (r.1 ∈ intsOf (ofInts (lackL list xs ms)))) = [] := by
    rw [List.filter_eq_nil_iff]
    intro r hr
    rw [decide_eq_true_eq, intsOf_ofInts]
    intro hm
    have h1 := lackL_has m4 hm
    rw [hasB_mem hr] at h1
    cases h1
  rw [hnone] at g2
  have hloop0 : loopV laws_FnLacks_r0 (t0, t1, t2, t3, t4, xs, list, t0, t1, t2, t3, t4, ofInts (lackL list xs ms), (0 : Int), ()) = some (.inl (t0, t1, t2, t3, t4, xs, list, t0, t1, t2, t3, t4, ofInts (lackL list xs ms), ())) := by
    have := loop_run (round := laws_FnLacks_r0) (e := .inl (t0, t1, t2, t3, t4, xs, list, t0, t1, t2, t3, t4, ofInts (lackL list xs ms), ())) (ofInts (lackL list xs ms)).length (fun k => (t0, t1, t2, t3, t4, xs, list, t0, t1, t2, t3, t4, ofInts (lackL list xs ms), ((k : Nat) : Int), ())) (by
      simp only [laws_FnLacks_r0, laws_FnLacks_c0, lt_nat_irr, cond_false]) (fun k hk => by
      have hk2 : k < (lackL list xs ms).length := by omega
      have g := ofInts_get (lackL list xs ms) k hk
      have hn := lackL_has m4 (List.getElem_mem hk2)
      unfold hasB at hn
      simp only [laws_FnLacks_r0, laws_FnLacks_c0, lt_nat_true hk, zero_le_nat, cond_true, toNat_nat, blt_true hk, List.getElem?_eq_getElem hk, Option.bind_some, g, itemat_spec list _ (show list.length ≤ 1048576 by omega), itemOut_has, hn, cond_false, succ_wrap (show k < 4611686018427387904 by omega)])
    exact this
  have hgl : (list.filter (fun r => decide (r.1 ∈ intsOf xs))).length ≤ 10 := Nat.le_trans (List.length_filter_le _ _) hlist
  have hloop2 : loopV laws_FnLacks_r2 (t0, t1, t2, t3, t4, xs, list, t0, t1, t2, t3, t4, ofInts (lackL list xs ms), list.filter (fun r => decide (r.1 ∈ intsOf xs)), (0 : Int), ()) = some (.inl (t0, t1, t2, t3, t4, xs, list, t0, t1, t2, t3, t4, ofInts (lackL list xs ms), ())) := by
    have := loop_run (round := laws_FnLacks_r2) (e := .inl (t0, t1, t2, t3, t4, xs, list, t0, t1, t2, t3, t4, ofInts (lackL list xs ms), ())) (list.filter (fun r => decide (r.1 ∈ intsOf xs))).length (fun k => (t0, t1, t2, t3, t4, xs, list, t0, t1, t2, t3, t4, ofInts (lackL list xs ms), list.filter (fun r => decide (r.1 ∈ intsOf xs)), ((k : Nat) : Int), ())) (by
      simp only [laws_FnLacks_r2, laws_FnLacks_c2, lt_nat_irr, cond_false]) (fun k hk => by
      have hm := (List.mem_filter.1 (List.getElem_mem hk)).2
      rw [decide_eq_true_eq] at hm
      simp only [laws_FnLacks_r2, laws_FnLacks_c2, lt_nat_true hk, zero_le_nat, cond_true, toNat_nat, blt_true hk, List.getElem?_eq_getElem hk, Option.bind_some, lawin_val _ xs (show xs.length ≤ 1048576 by omega) hm, Bool.not_true, cond_false, succ_wrap (show k < 4611686018427387904 by omega)])
    exact this
  simp only [Option.bind_some, cond_false, hd, l1, l2, s1, r1, Bool.not_true, dec_false (show ¬ (20 : Int) < ((List.length (ofInts (lackL list xs ms)) : Nat) : Int) by omega), hloop0, outK_inl, g1, hloop2, g2, List.length_nil, decide_true, cond_true]
  rfl
end Go.TM
