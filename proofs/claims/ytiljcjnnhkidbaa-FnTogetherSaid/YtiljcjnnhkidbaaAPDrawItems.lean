/- Drawn items. -/
import Derived.Test.YtiljcjnnhkidbaaAPDrawText
set_option linter.unusedSimpArgs false
set_option linter.unusedVariables false
namespace Go.TM
open Go
theorem pickS_ok (code : List (Int × Unit)) (at_ seed : Int) (l : List (ByteArray × Unit)) (h : DrawAt code at_) (h0 : 0 < l.length) : ∃ v at' s', spec_l01Pick code at_ seed l = some (v, code, at', s', ()) ∧ (v, ()) ∈ l ∧ DrawAt code at' := by
 obtain ⟨v, a1, s1, e1, v1, v2, d1⟩ := below_ok code at_ seed ((l.length : Nat) : Int) h (by omega); obtain ⟨k, rfl⟩ := Int.eq_ofNat_of_zero_le v1; have hk : k < l.length := by omega
 unfold spec_l01Pick; simp only [e1, Option.bind_some, zero_le_nat, cond_true, toNat_nat, List.getElem?_eq_getElem hk]; exact ⟨_, _, _, rfl, List.getElem_mem hk, d1⟩
theorem of_ok (code : List (Int × Unit)) (at_ seed q : Int) (h : DrawAt code at_) : ∃ f l s at' s', spec_l05Of code at_ seed q = some (q, f, l, s, code, at', s', ()) ∧ DrawAt code at' ∧ s.size ≤ 3 := by
 obtain ⟨v, a1, s1, e1, _, _, d1⟩ := below_ok code at_ seed 2 h (by omega); obtain ⟨t, a2, s2, e2, ht, d2⟩ := pickS_ok code a1 s1 [((ByteArray.mk #[]), ()), ((ByteArray.mk #[120]), ()), ((ByteArray.mk #[121, 121]), ()), ((ByteArray.mk #[122, 122, 122]), ())] d1 (by simp); unfold spec_l05Of; simp only [e1, e2, Option.bind_some]; refine ⟨_, _, _, _, _, rfl, d2, ?_⟩; simp only [List.mem_cons, Prod.mk.injEq, and_true, List.not_mem_nil, or_false] at ht; rcases ht with rfl | rfl | rfl | rfl <;> decide
theorem anyitem_ok (code : List (Int × Unit)) (at_ seed : Int) (h : DrawAt code at_) : ∃ q f l s at' s', spec_l05AnyItem code at_ seed = some (q, f, l, s, code, at', s', ()) ∧ DrawAt code at' ∧ s.size ≤ 61 := by
 obtain ⟨v, a1, s1, e1, _, _, d1⟩ := below_ok code at_ seed 12 h (by omega); obtain ⟨f, l, t, a2, s2, e2, d2, ht⟩ := of_ok code a1 s1 (IntKind.i64.wrap ((1 : Int) + v)) d1; obtain ⟨w, a3, s3, e3, _, _, d3⟩ := below_ok code a2 s2 16 d2 (by omega); have pick : ∀ l : List (Int × Unit), 0 < l.length → ∃ v at' s', spec_l01PickInt code a3 s3 l = some (v, code, at', s', ()) ∧ (v, ()) ∈ l ∧ DrawAt code at' := fun l hl => pick_ok code a3 s3 l d3 hl
 unfold spec_l05AnyItem; simp only [e1, e2, e3, Option.bind_some]
 cases decide (w = 0)
 case true =>
   obtain ⟨x, a4, s4, e4, _, d4⟩ := pick [((0 : Int), ()), ((-1 : Int), ()), ((60 : Int), ()), ((61 : Int), ())] (by simp); simp only [e4, Option.bind_some, cond_true]; exact ⟨_, _, _, _, _, _, rfl, d4, by omega⟩
 cases decide (w = 1)
 case true =>
   obtain ⟨x, a4, s4, e4, _, d4⟩ := pick [((0 : Int), ()), ((5 : Int), ()), ((6 : Int), ())] (by simp); simp only [e4, Option.bind_some, cond_true]; exact ⟨_, _, _, _, _, _, rfl, d4, by omega⟩
 cases decide (w = 2)
 case true =>
   obtain ⟨x, a4, s4, e4, _, d4⟩ := pick [((0 : Int), ()), ((3 : Int), ())] (by simp); simp only [e4, Option.bind_some, cond_true]; exact ⟨_, _, _, _, _, _, rfl, d4, by omega⟩
 cases decide (w = 3)
 case true =>
   obtain ⟨x, a4, s4, e4, x0, x1, d4⟩ := below_ok code a3 s3 2 d3 (by omega); obtain ⟨n, rfl⟩ := Int.eq_ofNat_of_zero_le x0; have hw : IntKind.i64.wrap ((60 : Int) + ((n : Nat) : Int)) = ((60 + n : Nat) : Int) := by rw [wrap_id] <;> omega
   obtain ⟨b, e5, hb⟩ := long_size (60 + n) 65 (by omega); simp only [e4, hw, e5, Option.bind_some, cond_true]; exact ⟨_, _, _, _, _, _, rfl, d4, by omega⟩
 exact ⟨_, _, _, _, _, _, rfl, d3, by omega⟩
theorem drawitems_ok (code : List (Int × Unit)) (at_ seed : Int) (h : DrawAt code at_) : ∃ l at' s', spec_l05Items code at_ seed = some (l, code, at', s', ()) ∧ List.length l ≤ 9 ∧ DrawAt code at' ∧ ∀ x ∈ l, ByteArray.size x.2.2.2.1 ≤ 61 := by
 obtain ⟨e, he, hq⟩ := loop_inv (round := spec_l05Items_r0) (x := (code, at_, seed, [], ((0 + 1 : Nat) : Int), ())) 9 (fun k x => ∃ (a s : Int) (l : ItemL), x = (code, a, s, l, ((k + 1 : Nat) : Int), ()) ∧ l.length ≤ k ∧ DrawAt code a ∧ ∀ x ∈ l, ByteArray.size x.2.2.2.1 ≤ 61)
   (fun e => ∃ (a s : Int) (l : ItemL), e = .inl (code, a, s, l, ()) ∧ l.length ≤ 9 ∧ DrawAt code a ∧ ∀ x ∈ l, ByteArray.size x.2.2.2.1 ≤ 61) (by
     rintro x ⟨a, s, l, rfl, q1, d, hx⟩
     obtain ⟨v, a1, s1, e1, v0, v1, d1⟩ := below_ok code a s 10 d (by omega); refine ⟨.inl (code, a1, s1, l, ()), ?_, _, _, _, rfl, q1, d1, hx⟩; simp only [spec_l05Items_r0, spec_l05Items_c0, e1, Option.bind_some, dec_false (show ¬ ((9 + 1 : Nat) : Int) ≤ v by omega), cond_false]) (by
     rintro k x hk ⟨a, s, l, rfl, q1, d, hx⟩
     obtain ⟨v, a1, s1, e1, v0, v1, d1⟩ := below_ok code a s 10 d (by omega)
     by_cases hlt : ((k + 1 : Nat) : Int) ≤ v
     · obtain ⟨b, a2, s2, e2, d2⟩ := once_ok code a1 s1 4 d1 (by omega)
       cases b
       · obtain ⟨f, lv, t, a3, s3, e3, d3, ht⟩ := of_ok code a2 s2 ((k + 1 : Nat) : Int) d2; refine .inr ⟨_, ?_, a3, s3, l ++ [(((k + 1 : Nat) : Int), f, lv, t, ())], rfl, by simp; omega, d3, fun x h => by
           rcases List.mem_append.1 h with h | h
           · exact hx x h
           · rw [List.mem_singleton] at h; subst h; show t.size ≤ 61; omega⟩
         simp only [spec_l05Items_r0, spec_l05Items_c0, e1, e2, e3, Option.bind_some, dec_true hlt, cond_true, Bool.not_false, ble_true (show (l.length + 1) * 40 ≤ lim by unfold lim; omega), succ_wrap (show k + 1 < 4611686018427387904 by omega)]
       · refine .inr ⟨_, ?_, a2, s2, l, rfl, by omega, d2, hx⟩; simp only [spec_l05Items_r0, spec_l05Items_c0, e1, e2, Option.bind_some, dec_true hlt, cond_true, cond_false, Bool.not_true, succ_wrap (show k + 1 < 4611686018427387904 by omega)]
     · refine .inl ⟨.inl (code, a1, s1, l, ()), ?_, _, _, _, rfl, by omega, d1, hx⟩; simp only [spec_l05Items_r0, spec_l05Items_c0, e1, Option.bind_some, dec_false hlt, cond_false]) ⟨at_, seed, [], rfl, by simp, h, fun x h => by cases h⟩
 have he : loopV spec_l05Items_r0 (code, at_, seed, [], (1 : Int), ()) = some e := he; obtain ⟨a, s, l, rfl, q1, d, hx⟩ := hq; unfold spec_l05Items; rw [he]; exact ⟨l, a, s, rfl, q1, d, hx⟩
theorem anyitems_ok (code : List (Int × Unit)) (at_ seed : Int) (h : DrawAt code at_) : ∃ l at' s', spec_l05AnyItems code at_ seed = some (l, code, at', s', ()) ∧ List.length l ≤ 10 ∧ DrawAt code at' ∧ ∀ x ∈ l, ByteArray.size x.2.2.2.1 ≤ 61 := by
 obtain ⟨l, a1, s1, e1, l1, d1, hx⟩ := drawitems_ok code at_ seed h; obtain ⟨v, a2, s2, e2, _, _, d2⟩ := below_ok code a1 s1 16 d1 (by omega); unfold spec_l05AnyItems; simp only [e1, e2, Option.bind_some]
 cases decide (v = 0)
 case true =>
   obtain ⟨q, f, lv, t, a3, s3, e3, d3, ht⟩ := anyitem_ok code a2 s2 d2; simp only [e3, Option.bind_some, cond_true, ble_true (show (l.length + 1) * 40 ≤ lim by unfold lim; omega)]; exact ⟨_, _, _, rfl, by simp; omega, d3, fun x h => by
     rcases List.mem_append.1 h with h | h
     · exact hx x h
     · rw [List.mem_singleton] at h; subst h; exact ht⟩
 cases decide (v = 1)
 case true =>
   by_cases h0 : (0 : Int) < ((List.length l : Nat) : Int)
   · obtain ⟨w, a3, s3, e3, w0, w1, d3⟩ := below_ok code a2 s2 ((List.length l : Nat) : Int) d2 h0; obtain ⟨i, rfl⟩ := Int.eq_ofNat_of_zero_le w0; have hi : i < l.length := by omega
     obtain ⟨x, a4, s4, e4, _, d4⟩ := pick_ok code a3 s3 [((0 : Int), ()), ((-1 : Int), ()), ((3 : Int), ()), ((61 : Int), ())] d3 (by simp); simp only [dec_true h0, e3, e4, Option.bind_some, cond_true, zero_le_nat, toNat_nat, blt_true hi, List.getElem?_eq_getElem hi]; exact ⟨_, _, _, rfl, by rw [List.length_set]; omega, d4, fun y h => by
       rcases List.mem_or_eq_of_mem_set h with h | rfl
       · exact hx y h
       · exact hx l[i] (List.getElem_mem hi)⟩
   · rw [dec_false h0]; exact ⟨_, _, _, rfl, by omega, d2, hx⟩
 exact ⟨_, _, _, rfl, by omega, d2, hx⟩
end Go.TM
