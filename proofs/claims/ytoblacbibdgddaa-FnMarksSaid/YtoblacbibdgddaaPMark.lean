/- Marks: what the laws write into a list and look for again. -/
import Derived.Test.YtoblacbibdgddaaPReadPiece
set_option linter.unusedSimpArgs false
set_option linter.unusedVariables false
namespace Go.TM
open Go

/-- Does the loop that writes a mark leave a short text? -/
def MarkOut {B : Type} : Sum (ByteArray × Unit) B → Prop
  | .inl y => y.1.size ≤ 20
  | .inr _ => False

theorem marktext_total (n : Nat) (h : n < 1099511627776) : ∃ b : ByteArray, laws_markText ((n : Nat) : Int) = some (b, ()) := by
  unfold laws_markText
  by_cases h0 : ((n : Nat) : Int) ≤ 0
  · rw [dec_true h0]; exact ⟨_, rfl⟩
  rw [dec_false h0]
  obtain ⟨e, he, hq⟩ := loop_inv (round := laws_markText_r0) (x := (((n : Nat) : Int), (ByteArray.mk #[]), ())) 20 (fun k x => ∃ (m : Nat) (out : ByteArray), x = (((m : Nat) : Int), out, ()) ∧ m ≤ n ∧ m < 10 ^ (20 - k) ∧ out.size = k)
    MarkOut (by
    rintro x ⟨m, out, rfl, hn, hm, hl⟩
    have hm : m < 1 := hm
    refine ⟨.inl (out, ()), ?_, by show out.size ≤ 20; omega⟩
    simp only [laws_markText_r0, laws_markText_c0, dec_false (show ¬ (0 : Int) < ((m : Nat) : Int) by omega), cond_false]) (by
    rintro k x hk ⟨m, out, rfl, hn, hm, hl⟩
    by_cases h1 : 0 < m
    · have hd : Int.tdiv ((m : Nat) : Int) (10 : Int) = ((m / 10 : Nat) : Int) := rfl
      have hbz : ByteArray.size (bytesOf [(IntKind.u8.wrap (IntKind.i64.wrap ((48 : Int) + (Int.tmod ((m : Nat) : Int) (10 : Int)))), ())]) = 1 := bytesOf_size _
      refine .inr ⟨(((m / 10 : Nat) : Int), bytesOf [(IntKind.u8.wrap (IntKind.i64.wrap ((48 : Int) + (Int.tmod ((m : Nat) : Int) (10 : Int)))), ())] ++ out, ()), ?_, m / 10, bytesOf [(IntKind.u8.wrap (IntKind.i64.wrap ((48 : Int) + (Int.tmod ((m : Nat) : Int) (10 : Int)))), ())] ++ out, rfl, by omega, ?_, ?_⟩
      · simp only [laws_markText_r0, laws_markText_c0, dec_true (show (0 : Int) < ((m : Nat) : Int) by omega), cond_true, hd, wrap_id (show -9223372036854775808 ≤ ((m / 10 : Nat) : Int) by omega) (show ((m / 10 : Nat) : Int) < 9223372036854775808 by omega), hbz,
          ble_true (show 1 + out.size ≤ lim by unfold lim; omega)]
      · have e1 : 20 - k = (20 - (k + 1)) + 1 := by omega
        rw [e1, Nat.pow_succ] at hm
        omega
      · rw [ByteArray.size_append, hbz]; omega
    · refine .inl ⟨.inl (out, ()), ?_, by show out.size ≤ 20; omega⟩
      simp only [laws_markText_r0, laws_markText_c0, dec_false (show ¬ (0 : Int) < ((m : Nat) : Int) by omega), cond_false]) ⟨n, _, rfl, Nat.le_refl _, by show n < 100000000000000000000; omega, rfl⟩
  rw [he]
  cases e with
  | inr e => exact hq.elim
  | inl e =>
    have hq : e.1.size ≤ 20 := hq
    simp only [cond_false, outK_inl, ble_true (show 1 + ByteArray.size e.1 ≤ lim by unfold lim; omega), cond_true]
    exact ⟨_, rfl⟩

/-- The mark of a number. -/
noncomputable def markOf (n : Nat) : ByteArray := if h : n < 1099511627776 then Classical.choose (marktext_total n h) else ByteArray.empty
theorem markOf_eq {n : Nat} (h : n < 1099511627776) : laws_markText ((n : Nat) : Int) = some (markOf n, ()) := by
  unfold markOf
  rw [dif_pos h]
  exact Classical.choose_spec (marktext_total n h)

/-- A list of marks, from one on. -/
def MarkedS (l : List (ByteArray × Unit)) (a : Nat) : Prop := ∀ j, j < l.length → l[j]? = some (markOf (a + j), ())

/-- What the loop that marks leaves. -/
def MarkSOut (n a : Nat) {B : Type} : Sum ((List (ByteArray × Unit)) × Int × Unit) B → Prop
  | .inl y => y.2.1 = ((a + n : Nat) : Int) ∧ y.1.length = n ∧ MarkedS y.1 a
  | .inr _ => False

theorem markStringS_ok (xs : List (ByteArray × Unit)) (a : Nat) (h : xs.length ≤ 1048576) (ha : a ≤ 1048576) : ∃ l, laws_markStringS xs ((a : Nat) : Int) = some (((a + xs.length : Nat) : Int), l, ()) ∧ l.length = xs.length ∧ MarkedS l a := by
  unfold laws_markStringS
  obtain ⟨e, he, hq⟩ := loop_inv (round := laws_markStringS_r0) (x := (xs, ((a : Nat) : Int), ((0 : Nat) : Int), ())) xs.length (fun k x => ∃ l : List (ByteArray × Unit), x = (l, ((a + k : Nat) : Int), ((k : Nat) : Int), ()) ∧ l.length = xs.length ∧ ∀ j, j < k → l[j]? = some (markOf (a + j), ()))
    (MarkSOut xs.length a) (by
    rintro x ⟨l, rfl, hl, hj⟩
    refine ⟨.inl (l, ((a + xs.length : Nat) : Int), ()), ?_, rfl, hl, fun j (hj' : j < l.length) => hj j (by omega)⟩
    simp only [laws_markStringS_r0, laws_markStringS_c0, hl, lt_nat_irr, cond_false]) (by
    rintro k x hk ⟨l, rfl, hl, hj⟩
    have hkl : k < l.length := by omega
    refine .inr ⟨_, ?_, l.set k (markOf (a + k), ()), rfl, by simp [hl], fun j hj' => ?_⟩
    · have e1 : IntKind.i64.wrap (((a + k : Nat) : Int) + (1 : Int)) = ((a + (k + 1) : Nat) : Int) := by rw [wrap_id] <;> omega
      simp only [laws_markStringS_r0, laws_markStringS_c0, lt_nat_true hkl, zero_le_nat, cond_true, toNat_nat, blt_true hkl, List.getElem?_eq_getElem hkl, Option.bind_some, markOf_eq (show a + k < 1099511627776 by omega), e1, succ_wrap (show k < 4611686018427387904 by omega)]
    · rw [List.getElem?_set]
      by_cases hjk : k = j
      · subst hjk
        rw [if_pos rfl, if_pos hkl]
      · rw [if_neg hjk]
        exact hj j (by omega)) ⟨xs, rfl, rfl, fun j hj => by omega⟩
  rw [show (0 : Int) = ((0 : Nat) : Int) from rfl, he]
  cases e with
  | inr e => exact hq.elim
  | inl e =>
    obtain ⟨q1, q2, q3⟩ := hq
    exact ⟨e.1, by rw [← q1]; rfl, q2, q3⟩

theorem heldStringS_ok (l : List (ByteArray × Unit)) (a : Nat) (h : l.length ≤ 1048576) (ha : a ≤ 1048576) (hm : MarkedS l a) : laws_heldStringS l ((a : Nat) : Int) = some (((a + l.length : Nat) : Int), ()) := by
  have hl := loop_run (round := laws_heldStringS_r0) (e := .inl (((a + l.length : Nat) : Int), ())) l.length (fun k => (l, ((a + k : Nat) : Int), ((k : Nat) : Int), ())) (by
    simp only [laws_heldStringS_r0, laws_heldStringS_c0, lt_nat_irr, cond_false]) (fun k hk => by
    have e1 : IntKind.i64.wrap (((a + k : Nat) : Int) + (1 : Int)) = ((a + (k + 1) : Nat) : Int) := by rw [wrap_id] <;> omega
    simp only [laws_heldStringS_r0, laws_heldStringS_c0, lt_nat_true hk, zero_le_nat, cond_true, toNat_nat, hm k hk, Option.bind_some, markOf_eq (show a + k < 1099511627776 by omega), strEq_self, Bool.not_true, cond_false, e1, succ_wrap (show k < 4611686018427387904 by omega)])
  unfold laws_heldStringS
  have hl : loopV laws_heldStringS_r0 (l, ((a : Nat) : Int), (0 : Int), ()) = _ := hl
  rw [hl]
  rfl
end Go.TM
