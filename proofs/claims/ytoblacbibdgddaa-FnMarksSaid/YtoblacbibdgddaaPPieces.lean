/- Pieces, of the program and of the reference. -/
import Derived.Test.YtoblacbibdgddaaPMark
set_option linter.unusedSimpArgs false
set_option linter.unusedVariables false
namespace Go.TM
open Go

theorem tdiv_nat (a b : Nat) : Int.tdiv ((a : Nat) : Int) ((b : Nat) : Int) = ((a / b : Nat) : Int) := rfl

/-- How both loops leave. -/
def PiecesOut (n : Nat) {B C : Type} : Sum ((List (ByteArray × Unit)) × Unit) B → Sum ((List (ByteArray × Unit)) × Unit) C → Prop
  | .inl a, .inl b => a = b ∧ a.1.length = n
  | _, _ => False

theorem pieces_loop (m c : Nat) (s : ByteArray) (hm : m ≤ 100000) (hs : s.size ≤ 400) (hc : c ≤ 11) (hk40 : ∀ k, k < c → k * 40 ≤ s.size) :
    ∃ e f, loopV spec_Pieces_r0 (((m : Nat) : Int), s, [], ((c : Nat) : Int), (0 : Int), ()) = some e ∧ loopV impl_Pieces_r0 (((m : Nat) : Int), s, ((c : Nat) : Int), [], ((c : Nat) : Int), (0 : Int), ()) = some f ∧ PiecesOut c e f := by
  refine loop_two c (fun k x y => ∃ out : List (ByteArray × Unit), x = (((m : Nat) : Int), s, out, ((c : Nat) : Int), ((k : Nat) : Int), ()) ∧ y = (((m : Nat) : Int), s, ((c : Nat) : Int), out, ((c : Nat) : Int), ((k : Nat) : Int), ()) ∧ out.length = k) (PiecesOut c) ?_ ⟨[], rfl, rfl, rfl⟩
  rintro k x y hk ⟨out, rfl, rfl, hl⟩
  by_cases hlt : k < c
  · have h40 := hk40 k hlt
    have w1 : IntKind.i64.wrap (((k : Nat) : Int) * (40 : Int)) = ((k * 40 : Nat) : Int) := by rw [wrap_id] <;> omega
    have w2 : IntKind.i64.wrap (((k : Nat) : Int) + (1 : Int)) = ((k + 1 : Nat) : Int) := by rw [wrap_id] <;> omega
    have w3 : IntKind.i64.wrap (((k + 1 : Nat) : Int) * (40 : Int)) = (((k + 1) * 40 : Nat) : Int) := by rw [wrap_id] <;> omega
    obtain ⟨b1, p1, q1, z1⟩ := var_both m (by omega)
    obtain ⟨b2, p2, q2, z2⟩ := var_both k (by omega)
    obtain ⟨b3, p3, q3, z3⟩ := var_both c (by omega)
    have hmin : (if ((ByteArray.size s : Nat) : Int) < (((k + 1) * 40 : Nat) : Int) then ((ByteArray.size s : Nat) : Int) else (((k + 1) * 40 : Nat) : Int)) = ((min s.size ((k + 1) * 40) : Nat) : Int) := by
      split <;> omega
    have hex : ∀ t, (ByteArray.extract s (k * 40) t).size ≤ 400 := by
      intro t
      rw [ByteArray.size_extract]
      omega
    have hx1 := hex s.size
    have hx2 := hex ((k + 1) * 40)
    simp only [spec_Pieces_r0, spec_Pieces_c0, impl_Pieces_r0, impl_Pieces_c0, lt_nat_true hlt, cond_true, w1, w2, w3, zero_le_nat, toNat_nat, hmin, p1, p2, p3, q1, q2, q3, Option.bind_some, hl,
      ble_true (show b1.size + b2.size ≤ lim by unfold lim; omega), ble_true (show (b1 ++ b2).size + b3.size ≤ lim by rw [ByteArray.size_append]; unfold lim; omega), ble_true (show (k + 1) * 16 ≤ lim by unfold lim; omega),
      dec_true (show ((k * 40 : Nat) : Int) ≤ ((min s.size ((k + 1) * 40) : Nat) : Int) by omega), dec_true (show ((min s.size ((k + 1) * 40) : Nat) : Int) ≤ ((ByteArray.size s : Nat) : Int) by omega),
      dec_true (show ((k * 40 : Nat) : Int) ≤ ((ByteArray.size s : Nat) : Int) by omega), dec_true (show ((k * 40 : Nat) : Int) ≤ (((k + 1) * 40 : Nat) : Int) by omega), dec_true (show ((ByteArray.size s : Nat) : Int) ≤ ((ByteArray.size s : Nat) : Int) by omega),
      ble_true (show (b1 ++ b2 ++ b3).size + (ByteArray.extract s (k * 40) (min s.size ((k + 1) * 40))).size ≤ lim by rw [ByteArray.size_append, ByteArray.size_append]; have := hex (min s.size ((k + 1) * 40)); unfold lim; omega),
      ble_true (show (b1 ++ b2 ++ b3).size + (ByteArray.extract s (k * 40) s.size).size ≤ lim by rw [ByteArray.size_append, ByteArray.size_append]; unfold lim; omega),
      ble_true (show (b1 ++ b2 ++ b3).size + (ByteArray.extract s (k * 40) ((k + 1) * 40)).size ≤ lim by rw [ByteArray.size_append, ByteArray.size_append]; unfold lim; omega)]
    by_cases hto : s.size < (k + 1) * 40
    · rw [dec_true (show ((ByteArray.size s : Nat) : Int) < (((k + 1) * 40 : Nat) : Int) by omega), Nat.min_eq_left (show s.size ≤ (k + 1) * 40 by omega)]
      exact .inr ⟨hlt, _, _, rfl, rfl, _, rfl, rfl, by simp [hl]⟩
    · rw [dec_false (show ¬ ((ByteArray.size s : Nat) : Int) < (((k + 1) * 40 : Nat) : Int) by omega), Nat.min_eq_right (show (k + 1) * 40 ≤ s.size by omega), dec_true (show (((k + 1) * 40 : Nat) : Int) ≤ ((ByteArray.size s : Nat) : Int) by omega)]
      exact .inr ⟨hlt, _, _, rfl, rfl, _, rfl, rfl, by simp [hl]⟩
  · have : k = c := by omega
    subst this
    exact .inl ⟨.inl (out, ()), .inl (out, ()), by simp only [spec_Pieces_r0, spec_Pieces_c0, lt_nat_irr, cond_false], by simp only [impl_Pieces_r0, impl_Pieces_c0, lt_nat_irr, cond_false], rfl, hl⟩

theorem pieces_same (m : Int) (s : ByteArray) : ∃ (l : List (ByteArray × Unit)) (b : Bool), spec_Pieces m s = some (l, b, ()) ∧ impl_Pieces m s = some (l, b, ()) ∧ l.length ≤ 11 := by
  unfold spec_Pieces impl_Pieces
  simp only [in_eq, in_eq', Option.bind_some]
  cases hb : (decide ((0 : Int) ≤ m) && decide (m ≤ (100000 : Int)))
  · exact ⟨[], false, rfl, rfl, by simp⟩
  rw [Bool.and_eq_true, decide_eq_true_eq, decide_eq_true_eq] at hb
  obtain ⟨n, rfl⟩ := Int.eq_ofNat_of_zero_le hb.1
  by_cases hs : (400 : Int) < ((ByteArray.size s : Nat) : Int)
  · rw [dec_true hs]; exact ⟨[], false, rfl, rfl, by simp⟩
  rw [dec_false hs]
  have w : IntKind.i64.wrap (Int.tdiv (IntKind.i64.wrap ((IntKind.i64.wrap (((ByteArray.size s : Nat) : Int) + (40 : Int))) - (1 : Int))) (40 : Int)) = (((s.size + 39) / 40 : Nat) : Int) := by
    rw [wrap_id (show -9223372036854775808 ≤ ((ByteArray.size s : Nat) : Int) + 40 by omega) (by omega), wrap_id (show -9223372036854775808 ≤ ((ByteArray.size s : Nat) : Int) + 40 - 1 by omega) (by omega)]
    rw [show ((ByteArray.size s : Nat) : Int) + 40 - 1 = ((s.size + 39 : Nat) : Int) by omega, show (40 : Int) = ((40 : Nat) : Int) from rfl, tdiv_nat, wrap_id] <;> omega
  simp only [w, Bool.not_true, cond_false]
  have hmax : (if (((s.size + 39) / 40 : Nat) : Int) > (1 : Int) then (((s.size + 39) / 40 : Nat) : Int) else (1 : Int)) = ((max 1 ((s.size + 39) / 40) : Nat) : Int) := by
    split <;> omega
  rw [hmax]
  by_cases h0 : (((s.size + 39) / 40 : Nat) : Int) = 0
  · rw [dec_true h0]
    have hc : max 1 ((s.size + 39) / 40) = 1 := by omega
    rw [hc]
    obtain ⟨e, f, h1, h2, h3⟩ := pieces_loop n 1 s (by omega) (by omega) (by omega) (fun k hk => by omega)
    have h1 : loopV spec_Pieces_r0 (((n : Nat) : Int), s, [], (1 : Int), (0 : Int), ()) = some e := h1
    simp only [cond_true, h1]
    rw [h2]
    cases e with
    | inr e => exact h3.elim
    | inl e => cases f with
      | inr f => exact h3.elim
      | inl f =>
        obtain ⟨rfl, h4⟩ := h3
        exact ⟨e.1, true, rfl, rfl, by omega⟩
  · rw [dec_false h0]
    have hc : max 1 ((s.size + 39) / 40) = (s.size + 39) / 40 := by omega
    rw [hc]
    obtain ⟨e, f, h1, h2, h3⟩ := pieces_loop n ((s.size + 39) / 40) s (by omega) (by omega) (by omega) (fun k hk => by omega)
    simp only [cond_false]
    rw [h1, h2]
    cases e with
    | inr e => exact h3.elim
    | inl e => cases f with
      | inr f => exact h3.elim
      | inl f =>
        obtain ⟨rfl, h4⟩ := h3
        exact ⟨e.1, true, rfl, rfl, by omega⟩

theorem eqS_self (l : List (ByteArray × Unit)) (h : l.length ≤ 1048576) : laws_eqStringS l l = some (true, ()) := by
  have hl : loopV laws_eqStringS_r0 (l, l, (0 : Int), ()) = some (.inl ()) := by
    have := loop_run (round := laws_eqStringS_r0) (e := .inl ()) l.length (fun k => (l, l, ((k : Nat) : Int), ())) (by
      simp only [laws_eqStringS_r0, laws_eqStringS_c0, lt_nat_irr, cond_false]) (fun k hk => by
      simp only [laws_eqStringS_r0, laws_eqStringS_c0, lt_nat_true hk, zero_le_nat, cond_true, cond_false, toNat_nat, List.getElem?_eq_getElem hk, Option.bind_some, strEq_self, Bool.not_true, succ_wrap (show k < 4611686018427387904 by omega)])
    simpa using this
  unfold laws_eqStringS
  simp only [decide_true, Bool.not_true, cond_false, hl, outK_inl]

theorem pieces_true (m : Int) (s : ByteArray) : laws_FnExactPieces m s = some (true, ()) := by
  unfold laws_FnExactPieces
  by_cases h : (1048576 : Int) < ((ByteArray.size s : Nat) : Int)
  · rw [dec_true h]; rfl
  · rw [dec_false h]
    obtain ⟨l, b, h1, h2, h3⟩ := pieces_same m s
    obtain ⟨l2, g1, g2, g3⟩ := markStringS_ok l 1 (by omega) (by omega)
    have g4 := heldStringS_ok l2 1 (by omega) (by omega) g3
    have g1 : laws_markStringS l (1 : Int) = _ := g1
    have g4 : laws_heldStringS l2 (1 : Int) = _ := g4
    simp only [cond_false, h1, h2, Option.bind_some, eqS_self l (by omega), Bool.not_true, beq_self_eq_true, g1, g4, g2, dec_false (show ¬ ((1 + l.length : Nat) : Int) < 0 by omega), decide_true]
end Go.TM
