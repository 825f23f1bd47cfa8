/- Bundles that are drawn. -/
import Derived.Test.YtiljcjnnhkidbaaAPPDrawRing
set_option linter.unusedSimpArgs false
set_option linter.unusedVariables false
namespace Go.TM
open Go
theorem figure_ok (x : Int) : ∃ y, spec_l01Figure x = some (y, ()) := by
 unfold spec_l01Figure
 cases decide (x < (10 : Int))
 · exact ⟨_, rfl⟩
 · exact ⟨_, rfl⟩
theorem decimal_ok (n : Int) (h0 : 0 < n) (h1 : n < 10) : ∃ s, spec_Decimal n = some (s, ()) ∧ ByteArray.size s ≤ 1 := by
 have m1 : Int.tmod n 10 = n := Int.tmod_eq_of_lt (by omega) h1; have m2 : Int.tdiv n 10 = 0 := Int.tdiv_eq_zero_of_lt (by omega) h1; obtain ⟨y, hy⟩ := figure_ok n; have hsz : ByteArray.size (bytesOf [(y, ())]) = 1 := bytesOf_size [(y, ())]; have hble : Nat.ble (ByteArray.size (bytesOf [(y, ())]) + 0) lim = true := by rw [hsz]; exact ble_true (by unfold lim; omega)
 have r1 : spec_Decimal_r0 (n, decide (n < (0 : Int)), (ByteArray.mk #[]), ()) = some (.inl ((0 : Int), false, (bytesOf [(y, ())]) ++ (ByteArray.mk #[]), ())) := by
   have e1 : ByteArray.size (ByteArray.mk #[]) = 0 := rfl; simp only [spec_Decimal_r0, spec_Decimal_c0, dec_false (show ¬ n = 0 by omega), Bool.not_false, cond_true, m1, m2, dec_false (show ¬ n < 0 by omega), cond_false, hy, Option.bind_some, e1, hble, wrap_id (show -9223372036854775808 ≤ (0 : Int) by omega) (by omega)]
 have r2 : spec_Decimal_r0 ((0 : Int), false, (bytesOf [(y, ())]) ++ (ByteArray.mk #[]), ()) = some (.inr (.inl (false, (bytesOf [(y, ())]) ++ (ByteArray.mk #[]), ()))) := by
   simp only [spec_Decimal_r0, spec_Decimal_c0, decide_true, Bool.not_true, cond_false]
 unfold spec_Decimal; rw [dec_false (show ¬ n = 0 by omega), loopV_eq, r1]; simp only [cond_false]; rw [loopV_eq, r2]; refine ⟨_, rfl, ?_⟩; rw [ByteArray.size_append, hsz]
 decide
def FewI (l : ItemL) : Prop := l.length ≤ 10 ∧ ∀ x ∈ l, ByteArray.size x.2.2.2.1 ≤ 61
theorem FewI.w {l : ItemL} (h : FewI l) : l.length + wl W_iiis l ≤ 620 := by
 have := wl_le W_iiis 61 l h.2; have := h.1; omega
theorem FewI.nil : FewI [] := ⟨Nat.zero_le _, fun x h => by cases h⟩
theorem bundle_ok (code : List (Int × Unit)) (at_ seed : Int) (h : DrawAt code at_) (c : Int) (xs : List (Int × Unit)) (d : Int) (hc : c ≤ 10) : ∃ b0 b1 b2 l at' s', spec_l13Bundle code at_ seed c xs d = some (b0, b1, b2, l, code, at', s', ()) ∧ FewI l ∧ DrawAt code at' := by
 unfold spec_l13Bundle
 by_cases h1 : 1 < c
 · obtain ⟨b, a1, s1, e1, d1⟩ := once_ok code at_ seed 4 h (by omega); simp only [dec_true h1, cond_true, e1, Option.bind_some]
   cases b
   · have hw : IntKind.i64.wrap (c - (1 : Int)) = c - 1 := wrap_id (by omega) (by omega); obtain ⟨v, a2, s2, e2, v0, v1, d2⟩ := below_ok code a1 s1 (c - 1) d1 (by omega); simp only [Bool.not_false, cond_true, hw, e2, Option.bind_some]; obtain ⟨e, he, hq⟩ := loop_inv (round := spec_l13Bundle_r0) (x := (code, a2, s2, (0 : Int), (0 : Int), (0 : Int), [], d, c, IntKind.i64.wrap ((1 : Int) + v), [], [], ((0 + 1 : Nat) : Int), ())) 6
       (fun k x => ∃ l : ItemL, x = (code, a2, s2, (0 : Int), (0 : Int), (0 : Int), [], d, c, IntKind.i64.wrap ((1 : Int) + v), [], l, ((k + 1 : Nat) : Int), ()) ∧ l.length ≤ k ∧ ∀ x ∈ l, ByteArray.size x.2.2.2.1 ≤ 61)
       (fun e => ∃ l : ItemL, e = .inl (code, a2, s2, (0 : Int), (0 : Int), (0 : Int), [], d, c, IntKind.i64.wrap ((1 : Int) + v), [], l, ()) ∧ l.length ≤ 6 ∧ ∀ x ∈ l, ByteArray.size x.2.2.2.1 ≤ 61) (by
         rintro x ⟨l, rfl, q1, q2⟩
         exact ⟨_, by simp only [spec_l13Bundle_r0, spec_l13Bundle_c0, dec_false (show ¬ ((6 + 1 : Nat) : Int) ≤ 6 by omega), cond_false], l, rfl, q1, q2⟩) (by
         rintro k x hk ⟨l, rfl, q1, q2⟩
         obtain ⟨t, e3, ht⟩ := decimal_ok ((k + 1 : Nat) : Int) (by omega) (by omega); refine .inr ⟨_, ?_, l ++ [(((k + 1 : Nat) : Int), IntKind.i64.wrap ((1 : Int) + Int.tmod ((k + 1 : Nat) : Int) 3), IntKind.i64.wrap ((1 : Int) + Int.tmod ((k + 1 : Nat) : Int) 2), t, ())], rfl, by simp; omega, fun x hx => ?_⟩
         · simp only [spec_l13Bundle_r0, spec_l13Bundle_c0, dec_true (show ((k + 1 : Nat) : Int) ≤ 6 by omega), cond_true, e3, Option.bind_some, ble_true (show (l.length + 1) * 40 ≤ lim by unfold lim; omega), succ_wrap (show k + 1 < 4611686018427387904 by omega)]
         · rcases List.mem_append.1 hx with hx | hx
           · exact q2 x hx
           · rw [List.mem_singleton] at hx; subst hx; show t.size ≤ 61; omega) ⟨[], rfl, Nat.le_refl _, fun x hx => by cases hx⟩
     have he : loopV spec_l13Bundle_r0 (code, a2, s2, (0 : Int), (0 : Int), (0 : Int), [], d, c, IntKind.i64.wrap ((1 : Int) + v), [], [], (1 : Int), ()) = some e := he; obtain ⟨l, rfl, l1, l2⟩ := hq; rw [he]; simp only [outK_inl]; generalize IntKind.i64.wrap ((1 : Int) + v) = old; obtain ⟨e, he, hq⟩ := loop_inv (round := spec_l13Bundle_r2) (x := (code, a2, s2, (0 : Int), (0 : Int), (0 : Int), [], d, c, old, [], l, ((0 : Nat) : Int), ())) l.length
       (fun k x => ∃ (a s : Int) (m : ItemL), x = (code, a, s, (0 : Int), (0 : Int), (0 : Int), [], d, c, old, m, l, ((k : Nat) : Int), ()) ∧ m.length ≤ k ∧ (∀ x ∈ m, ByteArray.size x.2.2.2.1 ≤ 61) ∧ DrawAt code a)
       (fun e => ∃ (a s : Int) (m : ItemL), e = .inl (code, a, s, (0 : Int), (0 : Int), (0 : Int), [], d, c, old, m, ()) ∧ FewI m ∧ DrawAt code a) (by
         rintro x ⟨a, s, m, rfl, q1, q2, q3⟩
         exact ⟨_, by simp only [spec_l13Bundle_r2, spec_l13Bundle_c2, lt_nat_irr, cond_false], a, s, m, rfl, ⟨by omega, q2⟩, q3⟩) (by
         rintro k x hk ⟨a, s, m, rfl, q1, q2, q3⟩
         obtain ⟨b, a3, s3, e3, d3⟩ := once_ok code a s 3 q3 (by omega)
         cases b
         · refine .inr ⟨_, ?_, a3, s3, m ++ [l[k]], rfl, by simp; omega, fun x hx => ?_, d3⟩
           · simp only [spec_l13Bundle_r2, spec_l13Bundle_c2, lt_nat_true hk, cond_true, e3, Option.bind_some, Bool.not_false, zero_le_nat, toNat_nat, blt_true hk, List.getElem?_eq_getElem hk, ble_true (show (m.length + 1) * 40 ≤ lim by unfold lim; omega), succ_wrap (show k < 4611686018427387904 by omega)]
           · rcases List.mem_append.1 hx with hx | hx
             · exact q2 x hx
             · rw [List.mem_singleton] at hx; subst hx; exact l2 _ (List.getElem_mem hk)
         · refine .inr ⟨_, ?_, a3, s3, m, rfl, by omega, q2, d3⟩; simp only [spec_l13Bundle_r2, spec_l13Bundle_c2, lt_nat_true hk, cond_true, e3, Option.bind_some, Bool.not_true, cond_false, succ_wrap (show k < 4611686018427387904 by omega)]) ⟨a2, s2, [], rfl, Nat.le_refl _, (fun x hx => by cases hx), d2⟩
     have he : loopV spec_l13Bundle_r2 (code, a2, s2, (0 : Int), (0 : Int), (0 : Int), [], d, c, old, [], l, (0 : Int), ()) = some e := he; obtain ⟨a, s, m, rfl, m1, m2⟩ := hq; rw [he]; exact ⟨_, _, _, _, _, _, rfl, m1, m2⟩
   · exact ⟨_, _, _, _, _, _, rfl, FewI.nil, d1⟩
 · rw [dec_false h1]; exact ⟨_, _, _, _, _, _, rfl, FewI.nil, h⟩
theorem anybundle_ok (code : List (Int × Unit)) (at_ seed : Int) (h : DrawAt code at_) : ∃ b0 b1 b2 l at' s', spec_l13AnyBundle code at_ seed = some (b0, b1, b2, l, code, at', s', ()) ∧ FewI l ∧ DrawAt code at' := by
 obtain ⟨c, xs, a1, s1, e1, r1, _, _, d1⟩ := l09ring_ok code at_ seed h; obtain ⟨v, a2, s2, e2, v0, v1, d2⟩ := below_ok code a1 s1 4 d1 (by omega); have h0 : 0 < xs.length := r1.some_; have hw : IntKind.i64.wrap ((1 : Int) + v) = 1 + v := wrap_id (by omega) (by omega); obtain ⟨b0, b1, b2, l, a3, s3, e3, l3, d3⟩ := bundle_ok code a2 s2 d2 (1 + v) xs xs[0].1 (by omega); obtain ⟨w, a4, s4, e4, _, _, d4⟩ := below_ok code a3 s3 20 d3 (by omega); unfold spec_l13AnyBundle; simp only [e1, e2, Option.bind_some, blt_true h0, cond_true, List.getElem?_eq_getElem h0, hw, e3, e4]
 cases decide (w = 0)
 case true =>
   obtain ⟨x, a5, s5, e5, _, d5⟩ := pick_ok code a4 s4 [((0 : Int), ()), ((5 : Int), ()), ((6 : Int), ())] d4 (by simp); simp only [e5, Option.bind_some, cond_true]; exact ⟨_, _, _, _, _, _, rfl, l3, d5⟩
 cases decide (w = 1)
 case true =>
   obtain ⟨x, a5, s5, e5, _, d5⟩ := pick_ok code a4 s4 [((0 : Int), ()), ((9 : Int), ()), ((10 : Int), ())] d4 (by simp); simp only [e5, Option.bind_some, cond_true]; exact ⟨_, _, _, _, _, _, rfl, l3, d5⟩
 cases decide (w = 2)
 case true =>
   obtain ⟨x, a5, s5, e5, _, d5⟩ := pick_ok code a4 s4 [((-1 : Int), ()), ((0 : Int), ()), (b1, ())] d4 (by simp); simp only [e5, Option.bind_some, cond_true]; exact ⟨_, _, _, _, _, _, rfl, l3, d5⟩
 cases decide (w = 3)
 case true =>
   obtain ⟨m, a5, s5, e5, m5, d5, hx⟩ := anyitems_ok code a4 s4 d4; simp only [e5, Option.bind_some, cond_true]; exact ⟨_, _, _, _, _, _, rfl, ⟨m5, hx⟩, d5⟩
 exact ⟨_, _, _, _, _, _, rfl, l3, d4⟩
def FewB (l : List BunR) (n : Nat) : Prop := l.length ≤ n ∧ ∀ b ∈ l, FewI b.2.2.2.1
theorem FewB.snoc {l : List BunR} {n : Nat} (h : FewB l n) {b : BunR} (hb : FewI b.2.2.2.1) : FewB (l ++ [b]) (n + 1) :=
 ⟨by have := h.1; simp; omega, fun x hx => by
   rcases List.mem_append.1 hx with hx | hx
   · exact h.2 x hx
   · rw [List.mem_singleton] at hx; subst hx; exact hb⟩
theorem FewB.up {l : List BunR} {n m : Nat} (h : FewB l n) (hm : n ≤ m) : FewB l m := ⟨Nat.le_trans h.1 hm, h.2⟩
theorem FewB.w {l : List BunR} {n : Nat} (h : FewB l n) : l.length + wl W_iiiLiiisE l ≤ 621 * n := by
 have := wl_le W_iiiLiiisE 620 l (fun b hb => (h.2 b hb).w); have := h.1; have := Nat.mul_le_mul_left 620 this; omega
theorem bundles_ok (code : List (Int × Unit)) (at_ seed : Int) (h : DrawAt code at_) : ∃ c xs l at' s', spec_l13Bundles code at_ seed = some (c, xs, l, code, at', s', ()) ∧ RingV c xs ∧ FewB l 10 ∧ DrawAt code at' := by
 obtain ⟨c, xs, a1, s1, e1, r1, _, _, d1⟩ := l09ring_ok code at_ seed h; obtain ⟨v, a2, s2, e2, v0, v1, d2⟩ := below_ok code a1 s1 3 d1 (by omega); have hw : IntKind.i64.wrap ((1 : Int) + v) = 1 + v := wrap_id (by omega) (by omega); have hl := r1.len; have r2 : RingV (1 + v) xs := ⟨by omega, by omega, r1.some_, r1.rising⟩; unfold spec_l13Bundles; simp only [e1, e2, Option.bind_some, hw]; obtain ⟨e, he, hq⟩ := loop_inv (round := spec_l13Bundles_r0) (x := (code, a2, s2, (0 : Int), [], 1 + v, xs, [], ((0 : Nat) : Int), ())) xs.length
   (fun k x => ∃ (a s : Int) (l : List BunR), x = (code, a, s, (0 : Int), [], 1 + v, xs, l, ((k : Nat) : Int), ()) ∧ FewB l (2 * k) ∧ DrawAt code a)
   (fun e => ∃ (a s : Int) (l : List BunR), e = .inl (code, a, s, (0 : Int), [], 1 + v, xs, l, ()) ∧ FewB l 10 ∧ DrawAt code a) (by
     rintro x ⟨a, s, l, rfl, q1, q2⟩
     exact ⟨_, by simp only [spec_l13Bundles_r0, spec_l13Bundles_c0, lt_nat_irr, cond_false], a, s, l, rfl, q1.up (by omega), q2⟩) (by
     rintro k x hk ⟨a, s, l, rfl, q1, q2⟩
     have q3 := q1.1; obtain ⟨b, a3, s3, e3, d3⟩ := once_ok code a s 8 q2 (by omega)
     cases b
     · obtain ⟨b0, b1, b2, m, a4, s4, e4, m4, d4⟩ := bundle_ok code a3 s3 d3 (1 + v) xs xs[k].1 (by omega); obtain ⟨b, a5, s5, e5, d5⟩ := once_ok code a4 s4 8 d4 (by omega); have f1 : FewB (l ++ [(b0, b1, b2, m, ())]) (2 * k + 1) := q1.snoc m4
       cases b
       · refine .inr ⟨_, ?_, a5, s5, l ++ [(b0, b1, b2, m, ())], rfl, f1.up (by omega), d5⟩; simp only [spec_l13Bundles_r0, spec_l13Bundles_c0, lt_nat_true hk, cond_true, e3, e4, e5, Option.bind_some, Bool.not_false, zero_le_nat, toNat_nat, List.getElem?_eq_getElem hk, ble_true (show (l.length + 1) * 48 ≤ lim by unfold lim; omega), cond_false, succ_wrap (show k < 4611686018427387904 by omega)]
       · obtain ⟨c0, c1, c2, m', a6, s6, e6, m6, d6⟩ := anybundle_ok code a5 s5 d5; have f2 := f1.1; refine .inr ⟨_, ?_, a6, s6, (l ++ [(b0, b1, b2, m, ())]) ++ [(c0, c1, c2, m', ())], rfl, (f1.snoc m6).up (by omega), d6⟩; simp only [spec_l13Bundles_r0, spec_l13Bundles_c0, lt_nat_true hk, cond_true, e3, e4, e5, e6, Option.bind_some, Bool.not_false, zero_le_nat, toNat_nat, List.getElem?_eq_getElem hk, ble_true (show (l.length + 1) * 48 ≤ lim by unfold lim; omega), ble_true (show ((l ++ [(b0, b1, b2, m, ())]).length + 1) * 48 ≤ lim by unfold lim; omega), succ_wrap (show k < 4611686018427387904 by omega)]
     · obtain ⟨b, a5, s5, e5, d5⟩ := once_ok code a3 s3 8 d3 (by omega)
       cases b
       · refine .inr ⟨_, ?_, a5, s5, l, rfl, q1.up (by omega), d5⟩; simp only [spec_l13Bundles_r0, spec_l13Bundles_c0, lt_nat_true hk, cond_true, e3, e5, Option.bind_some, Bool.not_true, cond_false, succ_wrap (show k < 4611686018427387904 by omega)]
       · obtain ⟨c0, c1, c2, m', a6, s6, e6, m6, d6⟩ := anybundle_ok code a5 s5 d5; refine .inr ⟨_, ?_, a6, s6, l ++ [(c0, c1, c2, m', ())], rfl, (q1.snoc m6).up (by omega), d6⟩; simp only [spec_l13Bundles_r0, spec_l13Bundles_c0, lt_nat_true hk, cond_true, e3, e5, e6, Option.bind_some, Bool.not_true, cond_false, ble_true (show (l.length + 1) * 48 ≤ lim by unfold lim; omega), succ_wrap (show k < 4611686018427387904 by omega)]) ⟨a2, s2, [], rfl, ⟨Nat.le_refl _, fun b hb => by cases hb⟩, d2⟩
 have he : loopV spec_l13Bundles_r0 (code, a2, s2, (0 : Int), [], 1 + v, xs, [], (0 : Int), ()) = some e := he; obtain ⟨a, s, l, rfl, l1, l2⟩ := hq; rw [he]; exact ⟨_, _, _, _, _, rfl, r2, l1, l2⟩
end Go.TM
