/- Drawn items. -/
import Derived.Test.YtiljcjnnhkidbaaCPDrawText
set_option linter.unusedSimpArgs false
set_option linter.unusedVariables false
namespace Go.TM
open Go
theorem pickS_ok (code : List (Int × Unit)) (at_ seed : Int) (l : List (ByteArray × Unit)) (h : DrawAt code at_) (h0 : 0 < l.length) : ∃ v at' s', spec_l01Pick code at_ seed l = some (v, code, at', s', ()) ∧ (v, ()) ∈ l ∧ DrawAt code at' := by
 obtain ⟨v, a1, s1, e1, v1, v2, d1⟩ := below_ok code at_ seed ((l.length : Nat) : Int) h (by omega); obtain ⟨k, rfl⟩ := Int.eq_ofNat_of_zero_le v1; have hk : k < l.length := by omega
 unfold spec_l01Pick; simp only [e1, Option.bind_some, zero_le_nat, cond_true, toNat_nat, List.getElem?_eq_getElem hk]; exact ⟨_, _, _, rfl, List.getElem_mem hk, d1⟩
theorem of_ok (code : List (Int × Unit)) (at_ seed q : Int) (h : DrawAt code at_) : ∃ f l s at' s', spec_l05Of code at_ seed q = some (q, f, l, s, code, at', s', ()) ∧ DrawAt code at' ∧ s.size ≤ 3 := by
 obtain ⟨v, a1, s1, e1, _, _, d1⟩ := below_ok code at_ seed 2 h (by omega); obtain ⟨t, a2, s2, e2, ht, d2⟩ := pickS_ok code a1 s1 [((ByteArray.mk #[]), ()), ((ByteArray.mk #[120]), ()), ((ByteArray.mk #[121, 121]), ()), ((ByteArray.mk #[122, 122, 122]), ())] d1 (by simp); unfold spec_l05Of; simp only [e1, e2, Option.bind_some]; refine ⟨_, _, _, _, _, rfl, d2, ?_⟩; simp only [List.mem_cons, Prod.mk.injEq, and_true, List.not_mem_nil, or_false] at ht; rcases ht with rfl | rfl | rfl | rfl <;> decide
theorem anyitem_ok (code : List (Int × Unit)) (at_ seed : Int) (h : DrawAt code at_) : ∃ q f l s at' s', spec_l05AnyItem code at_ seed = some (q, f, l, s, code, at', s', ()) ∧ DrawAt code at' ∧ s.size ≤ 61 := by
 obtain ⟨v, a1, s1, e1, _, _, d1⟩ := below_ok code at_ seed 12 h (by omega); obtain ⟨f, l, t, a2, s2, e2, d2, ht⟩ := of_ok code a1 s1 (IntKind.i64.wrap ((1 : Int) + v)) d1; obtain ⟨w, a3, s3, e3, _, _, d3⟩ := below_ok code a2 s2 16 d2 (by omega); have pick : ∀ l : List (Int × Unit), 0 < l.length → ∃ v at' s', spec_l01PickInt code a3 s3 l = some (v, code, at', s', ()) ∧ (v, ()) ∈ l ∧ DrawAt code at' := fun l hl => pick_ok code a3 s3 l d3 hl
 unfold spec_l05AnyItem; simp only [e1, e2, e3, Option.bind_some]
 cases decide (w = 0)
 case true =>
   obtain ⟨x, a4, s4, e4, _, d4⟩ := pick [((0 : Int), ()), ((-1 : Int), ()), ((60 : Int), ()), ((61 : Int), ())] (by simp); simp only [e4, Option.bind_some, cond_true]; exact ⟨_, _, _, _, _, _, rfl, d4, by omega⟩
 cases decide (w = 1)
 case true =>
   obtain ⟨x, a4, s4, e4, _, d4⟩ := pick [((0 : Int), ()), ((5 : Int), ()), ((6 : Int), ())] (by simp); simp only [e4, Option.bind_some, cond_true]; exact ⟨_, _, _, _, _, _, rfl, d4, by omega⟩
 cases decide (w = 2)
 case true =>
   obtain ⟨x, a4, s4, e4, _, d4⟩ := pick [((0 : Int), ()), ((3 : Int), ())] (by simp); simp only [e4, Option.bind_some, cond_true]; exact ⟨_, _, _, _, _, _, rfl, d4, by omega⟩
 cases decide (w = 3)
 case true =>
   obtain ⟨x, a4, s4, e4, x0, x1, d4⟩ := below_ok code a3 s3 2 d3 (by omega); obtain ⟨n, rfl⟩ := Int.eq_ofNat_of_zero_le x0; have hw : IntKind.i64.wrap ((60 : Int) + ((n : Nat) : Int)) = ((60 + n : Nat) : Int) := by rw [wrap_id] <;> omega
   obtain ⟨b, e5, hb⟩ := long_size (60 + n) 65 (by omega); simp only [e4, hw, e5, Option.bind_some, cond_true]; exact ⟨_, _, _, _, _, _, rfl, d4, by omega⟩
 exact ⟨_, _, _, _, _, _, rfl, d3, by omega⟩
end Go.TM
