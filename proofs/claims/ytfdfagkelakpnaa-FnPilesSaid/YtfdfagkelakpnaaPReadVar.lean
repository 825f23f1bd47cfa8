/- Numbers read, by the program and by the reference. -/
import Derived.Test.YtfdfagkelakpnaaPVar
set_option linter.unusedSimpArgs false
set_option linter.unusedVariables false
namespace Go.TM
open Go

theorem byte_at {s : ByteArray} {j : Nat} (h : j < s.data.toList.length) : byteAt s ((j : Nat) : Int) = ((s.data.toList[j].toNat : Nat) : Int) := by
  unfold byteAt
  have h2 : j < s.size := by
    have : s.data.toList.length = s.size := Array.length_toList
    omega
  rw [toNat_nat, getElem?_pos s j h2]
  rfl

theorem size_list (s : ByteArray) : s.data.toList.length = s.size := Array.length_toList

theorem extract_list (s : ByteArray) (a n : Nat) : (ByteArray.extract s a (a + n)).data.toList = (s.data.toList.drop a).take n := by
  simp [ByteArray.data_extract]

/-- Both leave alike. -/
def ReadOut {A B C : Type} : Sum A C → Sum B C → Prop
  | .inl _, .inl _ => True
  | .inr a, .inr b => a = b
  | _, _ => False

theorem readvar_loop (s : ByteArray) (a : Nat) (hs : s.size ≤ 1048576) (ha : a ≤ s.size) :
    ∃ e f, loopV spec_ReadVar_r0 (s, ((a : Nat) : Int), (0 : Int), (1 : Int), ((a : Nat) : Int), ()) = some e ∧ loopV impl_ReadVar_r0 (s, ((a : Nat) : Int), (0 : Int), (1 : Int), (0 : Int), ()) = some f ∧ ReadOut e f ∧
      (∀ y, f = .inr y → y.2.2.1 = true → ∃ n t : Nat, y = (((n : Nat) : Int), ((t : Nat) : Int), true, ()) ∧ n ≤ 1000000000 ∧ a ≤ t ∧ t ≤ s.size) := by
  have hsz := size_list s
  let Q : Sum Unit (Int × Int × Bool × Unit) → Sum Unit (Int × Int × Bool × Unit) → Prop := fun e f => ReadOut e f ∧ (∀ y, f = .inr y → y.2.2.1 = true → ∃ n t : Nat, y = (((n : Nat) : Int), ((t : Nat) : Int), true, ()) ∧ n ≤ 1000000000 ∧ a ≤ t ∧ t ≤ s.size)
  refine loop_two (r1 := spec_ReadVar_r0) (r2 := impl_ReadVar_r0) 5 (fun k x y => x = (s, ((a : Nat) : Int), ((decB ((s.data.toList.drop a).take k) : Nat) : Int), ((128 ^ k : Nat) : Int), ((a + k : Nat) : Int), ()) ∧
      y = (s, ((a : Nat) : Int), ((decB ((s.data.toList.drop a).take k) : Nat) : Int), ((128 ^ k : Nat) : Int), ((k : Nat) : Int), ()) ∧ a + k ≤ s.size ∧ ∀ b ∈ (s.data.toList.drop a).take k, 128 ≤ b.toNat) Q ?_ ⟨rfl, rfl, by omega, by simp⟩
  rintro k x y hk ⟨rfl, rfl, hak, hall⟩
  have w5 : IntKind.i64.wrap (((a : Nat) : Int) + (5 : Int)) = ((a + 5 : Nat) : Int) := by rw [wrap_id] <;> omega
  have wk : IntKind.i64.wrap (((a : Nat) : Int) + ((k : Nat) : Int)) = ((a + k : Nat) : Int) := by rw [wrap_id] <;> omega
  by_cases hend : k < 5 ∧ a + k < s.size
  · obtain ⟨hk5, hlt⟩ := hend
    have hll : a + k < s.data.toList.length := by omega
    obtain ⟨b, hbdef⟩ : ∃ b, b = s.data.toList[a + k] := ⟨_, rfl⟩
    have hb := byte_at hll
    rw [← hbdef] at hb
    have hb256 := b.toNat_lt
    have hseg : (s.data.toList.drop a).take (k + 1) = (s.data.toList.drop a).take k ++ [b] := by
      have : k < (s.data.toList.drop a).length := by simp; omega
      rw [List.take_succ_eq_append_getElem this, hbdef]
      simp
    have hslen : ((s.data.toList.drop a).take k).length = k := by simp; omega
    have hdec := decB_snoc ((s.data.toList.drop a).take k) b
    rw [← hseg, hslen] at hdec
    have hlt2 := decB_lt ((s.data.toList.drop a).take (k + 1))
    have hslen2 : ((s.data.toList.drop a).take (k + 1)).length = k + 1 := by simp; omega
    rw [hslen2] at hlt2
    have h128 : 128 ^ (k + 1) ≤ 34359738368 := by
      have := Nat.pow_le_pow_right (show 0 < 128 by omega) (show k + 1 ≤ 5 by omega)
      omega
    have h128k : 128 ^ k ≤ 268435456 := by
      have := Nat.pow_le_pow_right (show 0 < 128 by omega) (show k ≤ 4 by omega)
      omega
    have wb : IntKind.i64.wrap ((b.toNat : Nat) : Int) = ((b.toNat : Nat) : Int) := by rw [wrap_id] <;> omega
    have hmod : Int.tmod ((b.toNat : Nat) : Int) (128 : Int) = ((b.toNat % 128 : Nat) : Int) := rfl
    have hmul : ((b.toNat % 128 : Nat) : Int) * ((128 ^ k : Nat) : Int) = ((b.toNat % 128 * 128 ^ k : Nat) : Int) := (Int.natCast_mul _ _).symm
    have wn : IntKind.i64.wrap (((decB ((s.data.toList.drop a).take k) : Nat) : Int) + IntKind.i64.wrap (((b.toNat % 128 : Nat) : Int) * ((128 ^ k : Nat) : Int))) = ((decB ((s.data.toList.drop a).take (k + 1)) : Nat) : Int) := by
      have hi : IntKind.i64.wrap ((b.toNat % 128 * 128 ^ k : Nat) : Int) = ((b.toNat % 128 * 128 ^ k : Nat) : Int) := wrap_id (by omega) (by omega)
      rw [hmul, hi, wrap_id (by omega) (by omega)]
      omega
    have wu : IntKind.i64.wrap (((128 ^ k : Nat) : Int) * (128 : Int)) = ((128 ^ (k + 1) : Nat) : Int) := by
      rw [Nat.pow_succ, wrap_id] <;> omega
    have ws : IntKind.i64.wrap (((a + k : Nat) : Int) + (1 : Int)) = ((a + k + 1 : Nat) : Int) := by rw [wrap_id] <;> omega
    have wk1 : IntKind.i64.wrap (((k : Nat) : Int) + (1 : Int)) = ((k + 1 : Nat) : Int) := by rw [wrap_id] <;> omega
    simp only [spec_ReadVar_r0, spec_ReadVar_c0, impl_ReadVar_r0, impl_ReadVar_c0, w5, wk, lt_nat_true hlt, lt_nat_true (show a + k < a + 5 by omega), dec_true (show ((k : Nat) : Int) < (5 : Int) by omega), zero_le_nat, cond_true, hb, wb, hmod, wn, wu, ws, wk1]
    generalize hN : decB ((s.data.toList.drop a).take (k + 1)) = N at *
    by_cases h128b : b.toNat < 128
    · rw [dec_true (show ((b.toNat : Nat) : Int) < (128 : Int) by omega), dec_false (show ¬ (128 : Int) ≤ ((b.toNat : Nat) : Int) by omega)]
      simp only [cond_true, cond_false]
      have hcan := encB_canon ((s.data.toList.drop a).take k) b h128b hall
      rw [← hseg, hN] at hcan
      by_cases hbig : 1000000000 < N
      · rw [dec_true (show (1000000000 : Int) < ((N : Nat) : Int) by omega)]
        simp only [cond_true]
        refine .inl ⟨.inr (0, 0, false, ()), .inr (0, 0, false, ()), rfl, ?_, rfl, fun y hy h => ?_⟩
        · cases decide (((b.toNat : Nat) : Int) = 0)
          · rfl
          · cases decide ((0 : Int) < ((k : Nat) : Int)) <;> rfl
        · cases hy; cases h
      · rw [dec_false (show ¬ (1000000000 : Int) < ((N : Nat) : Int) by omega)]
        simp only [cond_false]
        obtain ⟨ys, v1, v2, _⟩ := var_spec N (by omega)
        have hstr : strEq (bytesOf ys) (ByteArray.extract s a (a + k + 1)) = decide (k = 0 ∨ b ≠ 0) := by
          have hiff : strEq (bytesOf ys) (ByteArray.extract s a (a + k + 1)) = true ↔ (k = 0 ∨ b ≠ 0) := by
            rw [strEq_iff]
            have h1 : (bytesOf ys = ByteArray.extract s a (a + k + 1)) ↔ encB N = (s.data.toList.drop a).take (k + 1) := by
              rw [← v2, ← bytesOf_data, ← extract_list s a (k + 1)]
              exact ⟨fun h => by rw [h]; rfl, fun h => bytes_ext h⟩
            rw [h1, hcan]
            have h2 : ((s.data.toList.drop a).take k = []) ↔ k = 0 := by
              rw [← List.length_eq_zero_iff, hslen]
            rw [h2]
          cases hd : strEq (bytesOf ys) (ByteArray.extract s a (a + k + 1))
          · exact (dec_false (fun h => by rw [hiff.2 h] at hd; cases hd)).symm
          · exact (dec_true (hiff.1 hd)).symm
        simp only [zero_le_nat, cond_true, toNat_nat, dec_true (show ((a : Nat) : Int) ≤ ((a + k + 1 : Nat) : Int) by omega), dec_true (show ((a + k + 1 : Nat) : Int) ≤ ((ByteArray.size s : Nat) : Int) by omega), v1, Option.bind_some, hstr]
        by_cases hb0 : b = 0
        · subst hb0
          have hz : ((UInt8.toNat 0 : Nat) : Int) = 0 := rfl
          rw [dec_true hz]
          by_cases hk0 : k = 0
          · subst hk0
            refine .inl ⟨.inr (((N : Nat) : Int), ((a + 0 + 1 : Nat) : Int), true, ()), .inr (((N : Nat) : Int), ((a + 0 + 1 : Nat) : Int), true, ()), rfl, rfl, rfl, fun y hy h => ?_⟩
            cases hy
            exact ⟨N, a + 0 + 1, rfl, by omega, by omega, by omega⟩
          · rw [dec_false (show ¬ (k = 0 ∨ (0 : UInt8) ≠ 0) by simp [hk0]), dec_true (show (0 : Int) < ((k : Nat) : Int) by omega)]
            refine .inl ⟨.inr (0, 0, false, ()), .inr (0, 0, false, ()), rfl, rfl, rfl, fun y hy h => ?_⟩
            cases hy; cases h
        · have hne : b.toNat ≠ 0 := fun e => hb0 (UInt8.toNat_inj.1 e)
          rw [dec_true (show k = 0 ∨ b ≠ 0 from .inr hb0), dec_false (show ¬ ((b.toNat : Nat) : Int) = 0 by omega)]
          refine .inl ⟨.inr (((N : Nat) : Int), ((a + k + 1 : Nat) : Int), true, ()), .inr (((N : Nat) : Int), ((a + k + 1 : Nat) : Int), true, ()), rfl, rfl, rfl, fun y hy h => ?_⟩
          cases hy
          exact ⟨N, a + k + 1, rfl, by omega, by omega, by omega⟩
    · rw [dec_false (show ¬ ((b.toNat : Nat) : Int) < (128 : Int) by omega), dec_true (show (128 : Int) ≤ ((b.toNat : Nat) : Int) by omega)]
      refine .inr ⟨hk5, _, _, rfl, rfl, rfl, rfl, by omega, fun x hx => ?_⟩
      rw [hseg] at hx
      rcases List.mem_append.1 hx with hx | hx
      · exact hall x hx
      · rw [List.mem_singleton.1 hx]; omega
  · refine .inl ⟨.inl (), .inl (), ?_, ?_, trivial, fun y hy => by cases hy⟩
    · by_cases h1 : a + k < s.size
      · simp only [spec_ReadVar_r0, spec_ReadVar_c0, w5, lt_nat_true h1, dec_false (show ¬ ((a + k : Nat) : Int) < ((a + 5 : Nat) : Int) by omega), cond_true, cond_false]
      · simp only [spec_ReadVar_r0, spec_ReadVar_c0, dec_false (show ¬ ((a + k : Nat) : Int) < ((ByteArray.size s : Nat) : Int) by omega), cond_false]
    · by_cases h1 : k < 5
      · simp only [impl_ReadVar_r0, impl_ReadVar_c0, wk, dec_true (show ((k : Nat) : Int) < (5 : Int) by omega), dec_false (show ¬ ((a + k : Nat) : Int) < ((ByteArray.size s : Nat) : Int) by omega), cond_true, cond_false]
      · simp only [impl_ReadVar_r0, impl_ReadVar_c0, dec_false (show ¬ ((k : Nat) : Int) < (5 : Int) by omega), cond_false]

/-- Both read the same. -/
theorem readvar_same (s : ByteArray) (a : Nat) (hs : s.size ≤ 1048576) (ha : a ≤ s.size) : ∃ y : Int × Int × Bool × Unit, spec_ReadVar s ((a : Nat) : Int) = some y ∧ impl_ReadVar s ((a : Nat) : Int) = some y ∧
    (y.2.2.1 = true → ∃ n t : Nat, y = (((n : Nat) : Int), ((t : Nat) : Int), true, ()) ∧ n ≤ 1000000000 ∧ a ≤ t ∧ t ≤ s.size) := by
  obtain ⟨e, f, h1, h2, h3, h4⟩ := readvar_loop s a hs ha
  unfold spec_ReadVar impl_ReadVar
  simp only [in_eq, zero_le_nat, Bool.true_and, dec_true (show ((a : Nat) : Int) ≤ ((ByteArray.size s : Nat) : Int) by omega), Option.bind_some, Bool.not_true, cond_false, dec_false (show ¬ ((a : Nat) : Int) < 0 by omega), dec_false (show ¬ ((ByteArray.size s : Nat) : Int) < ((a : Nat) : Int) by omega), h1, h2]
  cases e with
  | inl e => cases f with
    | inl f => exact ⟨(0, 0, false, ()), rfl, rfl, fun h => by cases h⟩
    | inr f => exact h3.elim
  | inr e => cases f with
    | inl f => exact h3.elim
    | inr f =>
      have he : e = f := h3
      subst he
      exact ⟨e, rfl, rfl, h4 e rfl⟩
end Go.TM
