/- Numbers as bytes, of the program and of the reference. -/
import Derived.Test.YtfdfagkelakpnaaPIn0
set_option linter.unusedSimpArgs false
set_option linter.unusedVariables false
namespace Go.TM
open Go

/-- A number's bytes: seven bits each, the least first. -/
def encB (n : Nat) : List UInt8 :=
  if h : 127 < n then UInt8.ofNat (n % 128 + 128) :: encB (n / 128) else [UInt8.ofNat n]
termination_by n
decreasing_by omega

def decB : List UInt8 → Nat
  | [] => 0
  | b :: l => b.toNat % 128 + 128 * decB l

theorem decB_snoc (p : List UInt8) (b : UInt8) : decB (p ++ [b]) = decB p + b.toNat % 128 * 128 ^ p.length := by
  induction p with
  | nil => simp [decB]
  | cons a p ih =>
    show a.toNat % 128 + 128 * decB (p ++ [b]) = a.toNat % 128 + 128 * decB p + b.toNat % 128 * 128 ^ (p.length + 1)
    rw [ih, Nat.mul_add, Nat.pow_succ]
    have : 128 * (b.toNat % 128 * 128 ^ p.length) = b.toNat % 128 * (128 ^ p.length * 128) := by rw [Nat.mul_comm 128, Nat.mul_assoc]
    omega

theorem decB_lt (p : List UInt8) : decB p < 128 ^ p.length := by
  induction p with
  | nil => simp [decB]
  | cons a p ih =>
    show a.toNat % 128 + 128 * decB p < 128 ^ (p.length + 1)
    rw [Nat.pow_succ]
    omega

theorem decB_pos (p : List UInt8) (b : UInt8) (hb : b.toNat < 128) (h : b ≠ 0) : 0 < decB (p ++ [b]) := by
  rw [decB_snoc]
  have : b.toNat ≠ 0 := fun e => h (UInt8.toNat_inj.1 e)
  have h2 : b.toNat % 128 = b.toNat := Nat.mod_eq_of_lt hb
  rw [h2]
  have := Nat.mul_pos (show 0 < b.toNat by omega) (Nat.pow_pos (n := p.length) (show 0 < 128 by omega))
  omega

theorem encB_canon (p : List UInt8) (b : UInt8) (hb : b.toNat < 128) (hp : ∀ a ∈ p, 128 ≤ a.toNat) : encB (decB (p ++ [b])) = p ++ [b] ↔ (p = [] ∨ b ≠ 0) := by
  induction p with
  | nil =>
    have : decB [b] = b.toNat := by simp [decB, Nat.mod_eq_of_lt hb]
    simp only [List.nil_append, this, true_or, iff_true]
    unfold encB
    rw [dif_neg (by omega)]
    simp
  | cons a p ih =>
    have ha := hp a List.mem_cons_self
    have ha2 := a.toNat_lt
    have e : decB (a :: p ++ [b]) = (a.toNat - 128) + 128 * decB (p ++ [b]) := by
      show a.toNat % 128 + 128 * decB (p ++ [b]) = _
      omega
    have ih := ih (fun x hx => hp x (List.mem_cons_of_mem _ hx))
    simp only [reduceCtorEq, false_or]
    by_cases h0 : decB (p ++ [b]) = 0
    · constructor
      · intro h
        exfalso
        rw [e, h0] at h
        unfold encB at h
        rw [dif_neg (by omega)] at h
        have := congrArg List.length h
        simp at this
      · intro h
        have := decB_pos p b hb h
        omega
    · rw [e]
      unfold encB
      rw [dif_pos (by omega)]
      have e1 : (a.toNat - 128 + 128 * decB (p ++ [b])) % 128 + 128 = a.toNat := by omega
      have e2 : (a.toNat - 128 + 128 * decB (p ++ [b])) / 128 = decB (p ++ [b]) := by omega
      rw [e1, e2, UInt8.ofNat_toNat]
      show a :: encB (decB (p ++ [b])) = a :: (p ++ [b]) ↔ _
      rw [List.cons.injEq]
      simp only [true_and]
      rw [ih]
      constructor
      · rintro (h | h)
        · subst h
          intro hb0
          subst hb0
          exact h0 rfl
        · exact h
      · intro h; exact .inr h

theorem bytes_ext {a b : ByteArray} (h : a.data.toList = b.data.toList) : a = b := by
  obtain ⟨⟨x⟩⟩ := a
  obtain ⟨⟨y⟩⟩ := b
  exact congrArg (fun l => ByteArray.mk ⟨l⟩) h

theorem dig_wrap (m : Nat) : IntKind.u8.wrap (IntKind.i64.wrap (((m % 128 : Nat) : Int) + (128 : Int))) = ((m % 128 + 128 : Nat) : Int) := by
  rw [wrap_id (by omega) (by omega), wrap_u8 (by omega) (by omega)]
  omega
theorem dig_wrap' (m : Nat) : IntKind.u8.wrap (IntKind.i64.wrap ((128 : Int) + ((m % 128 : Nat) : Int))) = ((m % 128 + 128 : Nat) : Int) := by
  rw [wrap_id (by omega) (by omega), wrap_u8 (by omega) (by omega)]
  omega

/-- What the loop that writes a number's bytes leaves. -/
def VarOut {B : Type} (n : Nat) : Sum (Int × (List (Int × Unit)) × Unit) B → Prop
  | .inl y => ∃ m : Nat, y.1 = ((m : Nat) : Int) ∧ m ≤ 127 ∧ y.2.1.length ≤ 9 ∧ y.2.1.map byteU ++ encB m = encB n
  | .inr _ => False

/-- The reference's text of a number. -/
theorem var_spec (n : Nat) (h : n < 1099511627776) : ∃ ys : List (Int × Unit), spec_l01Var ((n : Nat) : Int) = some (bytesOf ys, ()) ∧ ys.map byteU = encB n ∧ ys.length ≤ 10 := by
  obtain ⟨e, he, hq⟩ := loop_inv (round := spec_l01Var_r0) (x := (((n : Nat) : Int), [], ())) 9 (fun k x => ∃ (m : Nat) (out : List (Int × Unit)), x = (((m : Nat) : Int), out, ()) ∧ m ≤ n ∧ m < 128 ^ (10 - k) ∧ out.length = k ∧ out.map byteU ++ encB m = encB n)
    (VarOut n) (by
    rintro x ⟨m, out, rfl, hn, hm, hl, ho⟩
    have hm : m < 128 := hm
    refine ⟨.inl (((m : Nat) : Int), out, ()), ?_, m, rfl, by omega, by show out.length ≤ 9; omega, ho⟩
    simp only [spec_l01Var_r0, spec_l01Var_c0, dec_false (show ¬ (127 : Int) < ((m : Nat) : Int) by omega), cond_false]) (by
    rintro k x hk ⟨m, out, rfl, hn, hm, hl, ho⟩
    by_cases h1 : 127 < m
    · refine .inr ⟨(((m / 128 : Nat) : Int), out ++ [(((m % 128 + 128 : Nat) : Int), ())], ()), ?_, m / 128, out ++ [(((m % 128 + 128 : Nat) : Int), ())], rfl, by omega, ?_, by simp [hl], ?_⟩
      · have hd : Int.tdiv ((m : Nat) : Int) (128 : Int) = ((m / 128 : Nat) : Int) := rfl
        have hr : Int.tmod ((m : Nat) : Int) (128 : Int) = ((m % 128 : Nat) : Int) := rfl
        simp only [spec_l01Var_r0, spec_l01Var_c0, dec_true (show (127 : Int) < ((m : Nat) : Int) by omega), cond_true, hd, hr, dig_wrap, wrap_id (show -9223372036854775808 ≤ ((m / 128 : Nat) : Int) by omega) (show ((m / 128 : Nat) : Int) < 9223372036854775808 by omega),
          ble_true (show (List.length out + 1) * 1 ≤ lim by unfold lim; omega)]
      · have e1 : 10 - k = (10 - (k + 1)) + 1 := by omega
        rw [e1, Nat.pow_succ] at hm
        omega
      · rw [List.map_append, List.append_assoc, ← ho]
        congr 1
        conv => rhs; unfold encB
        rw [dif_pos h1]
        rfl
    · refine .inl ⟨.inl (((m : Nat) : Int), out, ()), ?_, m, rfl, by omega, by show out.length ≤ 9; omega, ho⟩
      simp only [spec_l01Var_r0, spec_l01Var_c0, dec_false (show ¬ (127 : Int) < ((m : Nat) : Int) by omega), cond_false]) ⟨n, [], rfl, Nat.le_refl _, by show n < 1180591620717411303424; omega, rfl, rfl⟩
  unfold spec_l01Var
  rw [he]
  cases e with
  | inr e => exact hq.elim
  | inl e =>
    obtain ⟨m, e1, e2, e3, e4⟩ := hq
    refine ⟨e.2.1 ++ [(((m : Nat) : Int), ())], ?_, ?_, by simp; omega⟩
    · simp only [outK_inl, ble_true (show (List.length e.2.1 + 1) * 1 ≤ lim by unfold lim; omega), cond_true, e1, wrap_u8 (show 0 ≤ ((m : Nat) : Int) by omega) (show ((m : Nat) : Int) < 256 by omega)]
    · rw [List.map_append, ← e4]
      congr 1
      unfold encB
      rw [dif_neg (by omega)]
      rfl
/-- The program's text of a number. -/
theorem var_impl (n : Nat) (h : n < 1099511627776) : ∃ ys : List (Int × Unit), impl_varText ((n : Nat) : Int) = some (bytesOf ys, ()) ∧ ys.map byteU = encB n ∧ ys.length ≤ 10 := by
  obtain ⟨e, he, hq⟩ := loop_inv (round := impl_varText_r0) (x := (((n : Nat) : Int), [], ())) 9 (fun k x => ∃ (m : Nat) (out : List (Int × Unit)), x = (((m : Nat) : Int), out, ()) ∧ m ≤ n ∧ m < 128 ^ (10 - k) ∧ out.length = k ∧ out.map byteU ++ encB m = encB n)
    (VarOut n) (by
    rintro x ⟨m, out, rfl, hn, hm, hl, ho⟩
    have hm : m < 128 := hm
    refine ⟨.inl (((m : Nat) : Int), out, ()), ?_, m, rfl, by omega, by show out.length ≤ 9; omega, ho⟩
    simp only [impl_varText_r0, impl_varText_c0, dec_false (show ¬ (127 : Int) < ((m : Nat) : Int) by omega), cond_false]) (by
    rintro k x hk ⟨m, out, rfl, hn, hm, hl, ho⟩
    by_cases h1 : 127 < m
    · refine .inr ⟨(((m / 128 : Nat) : Int), out ++ [(((m % 128 + 128 : Nat) : Int), ())], ()), ?_, m / 128, out ++ [(((m % 128 + 128 : Nat) : Int), ())], rfl, by omega, ?_, by simp [hl], ?_⟩
      · have hd : Int.tdiv ((m : Nat) : Int) (128 : Int) = ((m / 128 : Nat) : Int) := rfl
        have hr : Int.tmod ((m : Nat) : Int) (128 : Int) = ((m % 128 : Nat) : Int) := rfl
        simp only [impl_varText_r0, impl_varText_c0, dec_true (show (127 : Int) < ((m : Nat) : Int) by omega), cond_true, hd, hr, dig_wrap', wrap_id (show -9223372036854775808 ≤ ((m / 128 : Nat) : Int) by omega) (show ((m / 128 : Nat) : Int) < 9223372036854775808 by omega),
          ble_true (show (List.length out + 1) * 1 ≤ lim by unfold lim; omega)]
      · have e1 : 10 - k = (10 - (k + 1)) + 1 := by omega
        rw [e1, Nat.pow_succ] at hm
        omega
      · rw [List.map_append, List.append_assoc, ← ho]
        congr 1
        conv => rhs; unfold encB
        rw [dif_pos h1]
        rfl
    · refine .inl ⟨.inl (((m : Nat) : Int), out, ()), ?_, m, rfl, by omega, by show out.length ≤ 9; omega, ho⟩
      simp only [impl_varText_r0, impl_varText_c0, dec_false (show ¬ (127 : Int) < ((m : Nat) : Int) by omega), cond_false]) ⟨n, [], rfl, Nat.le_refl _, by show n < 1180591620717411303424; omega, rfl, rfl⟩
  unfold impl_varText
  rw [he]
  cases e with
  | inr e => exact hq.elim
  | inl e =>
    obtain ⟨m, e1, e2, e3, e4⟩ := hq
    refine ⟨e.2.1 ++ [(((m : Nat) : Int), ())], ?_, ?_, by simp; omega⟩
    · simp only [outK_inl, ble_true (show (List.length e.2.1 + 1) * 1 ≤ lim by unfold lim; omega), cond_true, e1, wrap_u8 (show 0 ≤ ((m : Nat) : Int) by omega) (show ((m : Nat) : Int) < 256 by omega)]
    · rw [List.map_append, ← e4]
      congr 1
      unfold encB
      rw [dif_neg (by omega)]
      rfl
/-- Both write a number alike. -/
theorem var_both (n : Nat) (h : n < 1099511627776) : ∃ b : ByteArray, spec_l01Var ((n : Nat) : Int) = some (b, ()) ∧ impl_varText ((n : Nat) : Int) = some (b, ()) ∧ b.size ≤ 10 := by
  obtain ⟨ys, h1, h2, h3⟩ := var_spec n h
  obtain ⟨zs, g1, g2, _⟩ := var_impl n h
  refine ⟨bytesOf ys, h1, ?_, by rw [bytesOf_size]; exact h3⟩
  rw [g1]
  have : bytesOf zs = bytesOf ys := bytes_ext (by rw [bytesOf_data, bytesOf_data, h2, g2])
  rw [this]
end Go.TM
