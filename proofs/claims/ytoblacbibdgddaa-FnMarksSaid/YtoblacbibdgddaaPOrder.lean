/- OneOrder, of the program and of the reference. -/
import Derived.Test.YtoblacbibdgddaaPTurn
set_option linter.unusedSimpArgs false
set_option linter.unusedVariables false
namespace Go.TM
open Go

abbrev ItemT : Type := Int × Int × Int × ByteArray × Unit

theorem item_test (a b : ItemT) : (decide (a.1 = b.1) && (decide (a.2.1 = b.2.1) && (decide (a.2.2.1 = b.2.2.1) && (strEq a.2.2.2.1 b.2.2.2.1 && true)))) = true ↔ a = b := by
  obtain ⟨a1, a2, a3, a4, _⟩ := a
  obtain ⟨b1, b2, b3, b4, _⟩ := b
  simp only [Bool.and_eq_true, decide_eq_true_eq, strEq_iff, and_true, Prod.mk.injEq]

theorem item_test_false {a b : ItemT} (h : (decide (a.1 = b.1) && (decide (a.2.1 = b.2.1) && (decide (a.2.2.1 = b.2.2.1) && (strEq a.2.2.2.1 b.2.2.2.1 && true)))) = false) : a ≠ b := by
  intro e
  rw [(item_test a b).2 e] at h
  cases h

theorem begins_spec (a b : List ItemT) (ha : a.length ≤ 1048576) (hb : b.length ≤ 1048576) : ∃ v, spec_l11Begins a b = some (v, ()) ∧ (v = true ↔ a <+: b) := by
  unfold spec_l11Begins
  by_cases hl : b.length < a.length
  · rw [lt_nat_true hl]
    refine ⟨false, rfl, ⟨fun h => absurd h (by decide), fun h => ?_⟩⟩
    have := h.length_le
    omega
  · rw [dec_false (show ¬ ((List.length b : Nat) : Int) < ((List.length a : Nat) : Int) by omega)]
    obtain ⟨e, he, hq⟩ := loop_inv (round := spec_l11Begins_r0) (x := (a, b, ((0 : Nat) : Int), ())) a.length (fun k x => x = (a, b, ((k : Nat) : Int), ()) ∧ a.take k = b.take k)
      (fun e => match e with | .inl _ => a <+: b | .inr y => y.1 = false ∧ ¬ a <+: b) (by
      rintro x ⟨rfl, h⟩
      refine ⟨.inl (), by simp only [spec_l11Begins_r0, spec_l11Begins_c0, lt_nat_irr, cond_false], ?_⟩
      rw [List.take_length] at h
      rw [List.prefix_iff_eq_take]
      exact h) (by
      rintro k x hk ⟨rfl, h⟩
      have hkb : k < b.length := by omega
      simp only [spec_l11Begins_r0, spec_l11Begins_c0, lt_nat_true hk, zero_le_nat, cond_true, toNat_nat, List.getElem?_eq_getElem hk, List.getElem?_eq_getElem hkb, Option.bind_some, succ_wrap (show k < 4611686018427387904 by omega)]
      cases ht : (decide (a[k].1 = b[k].1) && (decide (a[k].2.1 = b[k].2.1) && (decide (a[k].2.2.1 = b[k].2.2.1) && (strEq a[k].2.2.2.1 b[k].2.2.2.1 && true))))
      · refine .inl ⟨.inr (false, ()), rfl, rfl, fun hp => item_test_false ht ?_⟩
        rw [List.prefix_iff_eq_take] at hp
        have h1 : a[k]? = (b.take a.length)[k]? := by rw [← hp]
        rw [List.getElem?_take_of_lt hk, List.getElem?_eq_getElem hk, List.getElem?_eq_getElem hkb] at h1
        exact Option.some.inj h1
      · have he := (item_test _ _).1 ht
        exact .inr ⟨_, rfl, rfl, by rw [List.take_succ_eq_append_getElem hk, List.take_succ_eq_append_getElem hkb, h, he]⟩) ⟨rfl, rfl⟩
    rw [show (0 : Int) = ((0 : Nat) : Int) from rfl, he]
    cases e with
    | inl e => exact ⟨true, rfl, ⟨fun _ => hq, fun _ => rfl⟩⟩
    | inr e =>
      obtain ⟨e1, _⟩ := e
      have h1 : e1 = false := hq.1
      subst h1
      exact ⟨false, rfl, ⟨fun h => absurd h (by decide), fun h => absurd h hq.2⟩⟩

theorem equal_items (a b : List ItemT) (ha : a.length ≤ 1048576) : ∃ v, slices_Equal_impl_Item a b = some (v, ()) ∧ (v = true ↔ a = b) := by
  unfold slices_Equal_impl_Item
  by_cases hl : a.length = b.length
  · rw [dec_true (show ((List.length a : Nat) : Int) = ((List.length b : Nat) : Int) by omega)]
    obtain ⟨e, he, hq⟩ := loop_inv (round := slices_Equal_impl_Item_r0) (x := (a, b, ((List.length a : Nat) : Int), ((0 : Nat) : Int), ())) a.length (fun k x => x = (a, b, ((List.length a : Nat) : Int), ((k : Nat) : Int), ()) ∧ a.take k = b.take k)
      (fun e => match e with | .inl _ => a = b | .inr y => y.1 = false ∧ a ≠ b) (by
      rintro x ⟨rfl, h⟩
      refine ⟨.inl (), by simp only [slices_Equal_impl_Item_r0, slices_Equal_impl_Item_c0, lt_nat_irr, cond_false], ?_⟩
      rw [List.take_length, hl, List.take_length] at h
      exact h) (by
      rintro k x hk ⟨rfl, h⟩
      have hkb : k < b.length := by omega
      simp only [slices_Equal_impl_Item_r0, slices_Equal_impl_Item_c0, lt_nat_true hk, zero_le_nat, cond_true, toNat_nat, List.getElem?_eq_getElem hk, List.getElem?_eq_getElem hkb, Option.bind_some, succ_wrap (show k < 4611686018427387904 by omega)]
      cases ht : (decide (a[k].1 = b[k].1) && (decide (a[k].2.1 = b[k].2.1) && (decide (a[k].2.2.1 = b[k].2.2.1) && (strEq a[k].2.2.2.1 b[k].2.2.2.1 && true))))
      · refine .inl ⟨.inr (false, ()), rfl, rfl, fun hp => item_test_false ht ?_⟩
        subst hp
        rfl
      · have he := (item_test _ _).1 ht
        exact .inr ⟨_, rfl, rfl, by rw [List.take_succ_eq_append_getElem hk, List.take_succ_eq_append_getElem hkb, h, he]⟩) ⟨rfl, rfl⟩
    simp only [Bool.not_true, cond_false]
    rw [show (0 : Int) = ((0 : Nat) : Int) from rfl, he]
    cases e with
    | inl e => exact ⟨true, rfl, ⟨fun _ => hq, fun _ => rfl⟩⟩
    | inr e =>
      obtain ⟨e1, _⟩ := e
      have h1 : e1 = false := hq.1
      subst h1
      exact ⟨false, rfl, ⟨fun h => absurd h (by decide), fun h => absurd h hq.2⟩⟩
  · rw [dec_false (show ¬ ((List.length a : Nat) : Int) = ((List.length b : Nat) : Int) by omega)]
    exact ⟨false, rfl, ⟨fun h => absurd h (by decide), fun h => absurd (congrArg List.length h) hl⟩⟩

theorem begins_impl (a b : List ItemT) (ha : a.length ≤ 1048576) (hb : b.length ≤ 1048576) : ∃ v, impl_begins a b = some (v, ()) ∧ (v = true ↔ (a <+: b ∨ b <+: a)) := by
  unfold impl_begins
  have hm : (if ((List.length b : Nat) : Int) < ((List.length a : Nat) : Int) then ((List.length b : Nat) : Int) else ((List.length a : Nat) : Int)) = ((min a.length b.length : Nat) : Int) := by
    split <;> omega
  rw [hm]
  obtain ⟨v, h1, h2⟩ := equal_items (a.take (min a.length b.length)) (b.take (min a.length b.length)) (by simp; omega)
  refine ⟨v, ?_, h2.trans ?_⟩
  · simp only [zero_le_nat, dec_true (show ((min a.length b.length : Nat) : Int) ≤ ((List.length a : Nat) : Int) by omega), dec_true (show ((min a.length b.length : Nat) : Int) ≤ ((List.length b : Nat) : Int) by omega), cond_true, toNat_nat, List.drop_zero, h1, Option.bind_some]
  · rcases Nat.le_total a.length b.length with h | h
    · rw [Nat.min_eq_left h, List.take_length]
      constructor
      · intro e; exact .inl (List.prefix_iff_eq_take.2 e)
      · rintro (e | e)
        · exact List.prefix_iff_eq_take.1 e
        · have hl := e.length_le
          have := e.eq_of_length (by omega)
          subst this
          rw [List.take_length]
    · rw [Nat.min_eq_right h, List.take_length]
      constructor
      · intro e; exact .inr (List.prefix_iff_eq_take.2 e.symm)
      · rintro (e | e)
        · have hl := e.length_le
          have := e.eq_of_length (by omega)
          subst this
          rw [List.take_length]
        · exact (List.prefix_iff_eq_take.1 e).symm

/-- Loops leave alike. -/
def OrdOut (xs : List ((List ItemT) × Unit)) (i : Nat) : Sum ((List ((List ItemT) × Unit)) × Int × Unit) (Bool × Unit) → Sum ((List ((List ItemT) × Unit)) × (List ((List ItemT) × Unit)) × Int × Int × Unit) (Bool × Unit) → Prop
  | .inl a, .inl b => a = (xs, ((i : Nat) : Int), ()) ∧ b = (xs, xs, ((List.length xs : Nat) : Int), ((i : Nat) : Int), ())
  | .inr a, .inr b => a.1 = b.1
  | _, _ => False

theorem order_inner (xs : List ((List ItemT) × Unit)) (h : List.length xs + wl W_LiiisE xs ≤ 1048576) {i : Nat} (hi : i < xs.length) :
    ∃ e f, loopV spec_OneOrder_r2 (xs, ((i : Nat) : Int), (0 : Int), ()) = some e ∧ loopV impl_OneOrder_r2 (xs, xs[i].1, xs, ((List.length xs : Nat) : Int), ((i : Nat) : Int), List.take i xs, ((i : Nat) : Int), (0 : Int), ()) = some f ∧ OrdOut xs i e f := by
  have each : ∀ k (hk : k < xs.length), xs[k].1.length ≤ 1048576 := by
    intro k hk
    have hw := wl_mem W_LiiisE xs _ (List.getElem_mem hk)
    have hw : List.length xs[k].1 + wl W_iiis xs[k].1 ≤ wl W_LiiisE xs := hw
    omega
  refine loop_two i (fun k x y => x = (xs, ((i : Nat) : Int), ((k : Nat) : Int), ()) ∧ y = (xs, xs[i].1, xs, ((List.length xs : Nat) : Int), ((i : Nat) : Int), List.take i xs, ((i : Nat) : Int), ((k : Nat) : Int), ())) (OrdOut xs i) ?_ ⟨rfl, rfl⟩
  rintro k x y hk ⟨rfl, rfl⟩
  by_cases hlt : k < i
  · have hkx : k < xs.length := by omega
    have hkt : (xs.take i)[k]? = some xs[k] := by rw [List.getElem?_take_of_lt hlt, List.getElem?_eq_getElem hkx]
    obtain ⟨v1, g1, g2⟩ := begins_spec xs[i].1 xs[k].1 (each i hi) (each k hkx)
    obtain ⟨v2, g3, g4⟩ := begins_spec xs[k].1 xs[i].1 (each k hkx) (each i hi)
    obtain ⟨v3, g5, g6⟩ := begins_impl xs[i].1 xs[k].1 (each i hi) (each k hkx)
    simp only [spec_OneOrder_r2, spec_OneOrder_c2, impl_OneOrder_r2, impl_OneOrder_c2, lt_nat_true hlt, zero_le_nat, cond_true, toNat_nat, List.getElem?_eq_getElem hi, List.getElem?_eq_getElem hkx, hkt, Option.bind_some, g1, g3, g5, succ_wrap (show k < 4611686018427387904 by omega)]
    have hv : v3 = (v1 || v2) := by
      cases hv3 : v3
      · cases hv1 : v1
        · cases hv2 : v2
          · rfl
          · have := g6.2 (.inr (g4.1 hv2)); rw [hv3] at this; cases this
        · have := g6.2 (.inl (g2.1 hv1)); rw [hv3] at this; cases this
      · rcases g6.1 hv3 with e | e
        · rw [g2.2 e]; rfl
        · rw [g4.2 e, Bool.or_true]
    subst hv
    cases v1
    · cases v2
      · exact .inl ⟨.inr (false, ()), .inr (false, ()), rfl, rfl, rfl⟩
      · exact .inr ⟨hlt, _, _, rfl, rfl, rfl, rfl⟩
    · exact .inr ⟨hlt, _, _, rfl, rfl, rfl, rfl⟩
  · have : k = i := by omega
    subst this
    exact .inl ⟨.inl (xs, ((k : Nat) : Int), ()), .inl (xs, xs, ((List.length xs : Nat) : Int), ((k : Nat) : Int), ()), by simp only [spec_OneOrder_r2, spec_OneOrder_c2, lt_nat_irr, cond_false], by simp only [impl_OneOrder_r2, impl_OneOrder_c2, lt_nat_irr, cond_false], rfl, rfl⟩

theorem order_outer (xs : List ((List ItemT) × Unit)) (h : List.length xs + wl W_LiiisE xs ≤ 1048576) :
    ∃ e f, loopV spec_OneOrder_r0 (xs, (0 : Int), ()) = some e ∧ loopV impl_OneOrder_r0 (xs, xs, ((List.length xs : Nat) : Int), (0 : Int), ()) = some f ∧ SameOut e f := by
  refine loop_two xs.length (fun k x y => x = (xs, ((k : Nat) : Int), ()) ∧ y = (xs, xs, ((List.length xs : Nat) : Int), ((k : Nat) : Int), ())) SameOut ?_ ⟨rfl, rfl⟩
  rintro k x y hk ⟨rfl, rfl⟩
  by_cases hlt : k < xs.length
  · obtain ⟨e, f, h1, h2, h3⟩ := order_inner xs h hlt
    have hlen : ((List.length (List.take k xs) : Nat) : Int) = ((k : Nat) : Int) := by simp; omega
    simp only [spec_OneOrder_r0, spec_OneOrder_c0, impl_OneOrder_r0, impl_OneOrder_c0, lt_nat_true hlt, zero_le_nat, cond_true, toNat_nat, List.getElem?_eq_getElem hlt, Option.bind_some, dec_true (show ((k : Nat) : Int) ≤ ((List.length xs : Nat) : Int) by omega), List.drop_zero, hlen, h1, h2]
    cases e with
    | inl e => cases f with
      | inl f =>
        obtain ⟨q1, q2⟩ := h3
        subst q1 q2
        simp only [outK_inl, succ_wrap (show k < 4611686018427387904 by omega)]
        exact .inr ⟨hlt, _, _, rfl, rfl, rfl, rfl⟩
      | inr f => exact h3.elim
    | inr e => cases f with
      | inl f => exact h3.elim
      | inr f => exact .inl ⟨.inr (e.1, ()), .inr (f.1, ()), rfl, rfl, h3⟩
  · have : k = xs.length := by omega
    subst this
    exact .inl ⟨.inl (), .inl (), by simp only [spec_OneOrder_r0, spec_OneOrder_c0, lt_nat_irr, cond_false], by simp only [impl_OneOrder_r0, impl_OneOrder_c0, lt_nat_irr, cond_false], trivial⟩

theorem order_same (xs : List ((List ItemT) × Unit)) (h : List.length xs + wl W_LiiisE xs ≤ 1048576) : ∃ b, spec_OneOrder xs = some (b, ()) ∧ impl_OneOrder xs = some (b, ()) := by
  obtain ⟨e, f, h1, h2, h3⟩ := order_outer xs h
  unfold spec_OneOrder impl_OneOrder
  rw [h1, h2]
  cases e with
  | inl e => cases f with
    | inl f => exact ⟨true, rfl, rfl⟩
    | inr f => exact h3.elim
  | inr e => cases f with
    | inl f => exact h3.elim
    | inr f => exact ⟨e.1, rfl, by rw [show e.1 = f.1 from h3]; rfl⟩

theorem order_true (xs : List ((List ItemT) × Unit)) (hz : List.length xs ≤ 9223372036854775807 ∧ ∀ y ∈ xs, Z_LiiisE y) : laws_FnExactOneOrder xs = some (true, ()) := by
  obtain ⟨m, e1, l1, w1⟩ := sz_ItemSS xs (left := 1048576) hz (by omega) (by omega)
  unfold laws_FnExactOneOrder
  rw [e1]
  simp only [Option.bind_some]
  by_cases hm : m < 0
  · rw [dec_true hm]; rfl
  · have w1 := w1 (by omega)
    have hs : List.length xs + wl W_LiiisE xs ≤ 1048576 := by omega
    obtain ⟨b, h1, h2⟩ := order_same xs hs
    rw [dec_false hm]
    simp only [to_ItemSS xs hs, cond_false, Option.bind_some, h1, h2, beq_self_eq_true, Bool.not_true, eq_ItemSS xs hs]
end Go.TM
