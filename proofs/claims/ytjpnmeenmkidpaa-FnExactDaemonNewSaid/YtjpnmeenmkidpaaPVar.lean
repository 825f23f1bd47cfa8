/- Numbers as bytes, of the program and of the reference. -/
import Derived.Test.YtjpnmeenmkidpaaPLacks
set_option linter.unusedSimpArgs false
set_option linter.unusedVariables false
namespace Go.TM
open Go

/-- A number's bytes: seven bits each, the least first. -/
def encB (n : Nat) : List UInt8 :=
  if h : 127 < n then UInt8.ofNat (n % 128 + 128) :: encB (n / 128) else [UInt8.ofNat n]
termination_by n
decreasing_by omega

def decB : List UInt8 → Nat
  | [] => 0
  | b :: l => b.toNat % 128 + 128 * decB l

theorem decB_snoc (p : List UInt8) (b : UInt8) : decB (p ++ [b]) = decB p + b.toNat % 128 * 128 ^ p.length := by
  induction p with
  | nil => simp [decB]
  | cons a p ih =>
    show a.toNat % 128 + 128 * decB (p ++ [b]) = a.toNat % 128 + 128 * decB p + b.toNat % 128 * 128 ^ (p.length + 1)
    rw [ih, Nat.mul_add, Nat.pow_succ]
    have : 128 * (b.toNat % 128 * 128 ^ p.length) = b.toNat % 128 * (128 ^ p.length * 128) := by rw [Nat.mul_comm 128, Nat.mul_assoc]
    omega

theorem decB_lt (p : List UInt8) : decB p < 128 ^ p.length := by
  induction p with
  | nil => simp [decB]
  | cons a p ih =>
    show a.toNat % 128 + 128 * decB p < 128 ^ (p.length + 1)
    rw [Nat.pow_succ]
    omega

theorem decB_pos (p : List UInt8) (b : UInt8) (hb : b.toNat < 128) (h : b ≠ 0) : 0 < decB (p ++ [b]) := by
  rw [decB_snoc]
  have : b.toNat ≠ 0 := fun e => h (UInt8.toNat_inj.1 e)
  have h2 : b.toNat % 128 = b.toNat := Nat.mod_eq_of_lt hb
  rw [h2]
  have := Nat.mul_pos (show 0 < b.toNat by omega) (Nat.pow_pos (n := p.length) (show 0 < 128 by omega))
  omega

theorem encB_canon (p : List UInt8) (b : UInt8) (hb : b.toNat < 128) (hp : ∀ a ∈ p, 128 ≤ a.toNat) : encB (decB (p ++ [b])) = p ++ [b] ↔ (p = [] ∨ b ≠ 0) := by
  induction p with
  | nil =>
    have : decB [b] = b.toNat := by simp [decB, Nat.mod_eq_of_lt hb]
    simp only [List.nil_append, this, true_or, iff_true]
    unfold encB
    rw [dif_neg (by omega)]
    simp
  | cons a p ih =>
    have ha := hp a List.mem_cons_self
    have ha2 := a.toNat_lt
    have e : decB (a :: p ++ [b]) = (a.toNat - 128) + 128 * decB (p ++ [b]) := by
      show a.toNat % 128 + 128 * decB (p ++ [b]) = _
      omega
    have ih := ih (fun x hx => hp x (List.mem_cons_of_mem _ hx))
    simp only [reduceCtorEq, false_or]
    by_cases h0 : decB (p ++ [b]) = 0
    · constructor
      · intro h
        exfalso
        rw [e, h0] at h
        unfold encB at h
        rw [dif_neg (by omega)] at h
        have := congrArg List.length h
        simp at this
      · intro h
        have := decB_pos p b hb h
        omega
    · rw [e]
      unfold encB
      rw [dif_pos (by omega)]
      have e1 : (a.toNat - 128 + 128 * decB (p ++ [b])) % 128 + 128 = a.toNat := by omega
      have e2 : (a.toNat - 128 + 128 * decB (p ++ [b])) / 128 = decB (p ++ [b]) := by omega
      rw [e1, e2, UInt8.ofNat_toNat]
      show a :: encB (decB (p ++ [b])) = a :: (p ++ [b]) ↔ _
      rw [List.cons.injEq]
      simp only [true_and]
      rw [ih]
      constructor
      · rintro (h | h)
        · subst h
          intro hb0
          subst hb0
          exact h0 rfl
        · exact h
      · intro h; exact .inr h

theorem bytes_ext {a b : ByteArray} (h : a.data.toList = b.data.toList) : a = b := by
  obtain ⟨⟨x⟩⟩ := a
  obtain ⟨⟨y⟩⟩ := b
  exact congrArg (fun l => ByteArray.mk ⟨l⟩) h

theorem dig_wrap (m : Nat) : IntKind.u8.wrap (IntKind.i64.wrap (((m % 128 : Nat) : Int) + (128 : Int))) = ((m % 128 + 128 : Nat) : Int) := by
  rw [wrap_id (by omega) (by omega), wrap_u8 (by omega) (by omega)]
  omega
theorem dig_wrap' (m : Nat) : IntKind.u8.wrap (IntKind.i64.wrap ((128 : Int) + ((m % 128 : Nat) : Int))) = ((m % 128 + 128 : Nat) : Int) := by
  rw [wrap_id (by omega) (by omega), wrap_u8 (by omega) (by omega)]
  omega

/-- What the loop that writes a number's bytes leaves. -/
def VarOut {B : Type} (n : Nat) : Sum (Int × (List (Int × Unit)) × Unit) B → Prop
  | .inl y => ∃ m : Nat, y.1 = ((m : Nat) : Int) ∧ m ≤ 127 ∧ y.2.1.length ≤ 9 ∧ y.2.1.map byteU ++ encB m = encB n
  | .inr _ => False

end Go.TM
