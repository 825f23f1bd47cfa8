/- Numbers that were written are read again. -/
import Derived.Test.YtfdfagkelakpnaaPAddPiece
set_option linter.unusedSimpArgs false
set_option linter.unusedVariables false
namespace Go.TM
open Go

theorem encB_shape (n : Nat) : ∃ (p : List UInt8) (b : UInt8), encB n = p ++ [b] ∧ (∀ x ∈ p, 128 ≤ x.toNat) ∧ b.toNat < 128 ∧ decB (encB n) = n ∧ (p = [] ∨ b ≠ 0) := by
  induction n using Nat.strongRecOn with
  | _ n ih =>
    by_cases h : 127 < n
    · obtain ⟨p, b, e1, e2, e3, e4, e5⟩ := ih (n / 128) (by omega)
      have hx : (UInt8.ofNat (n % 128 + 128)).toNat = n % 128 + 128 := by
        rw [UInt8.toNat_ofNat']
        omega
      have hu : encB n = UInt8.ofNat (n % 128 + 128) :: encB (n / 128) := by rw [encB, dif_pos h]
      refine ⟨UInt8.ofNat (n % 128 + 128) :: p, b, by rw [hu, e1]; rfl, fun x hx' => ?_, e3, ?_, .inr fun hb => ?_⟩
      · rcases List.mem_cons.1 hx' with rfl | hx'
        · omega
        · exact e2 x hx'
      · rw [hu]
        show (UInt8.ofNat (n % 128 + 128)).toNat % 128 + 128 * decB (encB (n / 128)) = n
        rw [e4, hx]
        omega
      · rcases e5 with rfl | h5
        · rw [e1] at e4
          have : decB ([] ++ [b]) = b.toNat % 128 := by show b.toNat % 128 + 128 * 0 = _; omega
          rw [this] at e4
          subst hb
          have : (0 : UInt8).toNat = 0 := rfl
          omega
        · exact h5 hb
    · have hx : (UInt8.ofNat n).toNat = n := by
        rw [UInt8.toNat_ofNat']
        omega
      have hu : encB n = [UInt8.ofNat n] := by rw [encB, dif_neg h]
      refine ⟨[], UInt8.ofNat n, hu, nofun, by omega, ?_, .inl rfl⟩
      rw [hu]
      show (UInt8.ofNat n).toNat % 128 + 128 * 0 = n
      omega

theorem encB_len : (k n : Nat) → n < 128 ^ (k + 1) → (encB n).length ≤ k + 1
  | 0, n, h => by
    have h : n < 128 := h
    rw [encB, dif_neg (by omega)]
    exact Nat.le_refl _
  | k + 1, n, h => by
    rw [encB]
    split
    · rename_i h1
      have : n / 128 < 128 ^ (k + 1) := by
        rw [Nat.pow_succ] at h
        exact Nat.div_lt_of_lt_mul (by rw [Nat.mul_comm]; exact h)
      have := encB_len k (n / 128) this
      simp only [List.length_cons]
      omega
    · simp

theorem readvar_enc (s : ByteArray) (a n : Nat) (hs : s.size ≤ 1048576) (hn : n ≤ 1000000000) (rest : List UInt8) (h : s.data.toList.drop a = encB n ++ rest) :
    impl_ReadVar s ((a : Nat) : Int) = some (((n : Nat) : Int), ((a + (encB n).length : Nat) : Int), true, ()) ∧ a + (encB n).length ≤ s.size := by
  obtain ⟨p, b, e1, e2, e3, e4, e5⟩ := encB_shape n
  have hlen := encB_len 4 n (by omega)
  have hsz := size_list s
  have htl : s.size - a = (encB n).length + rest.length := by
    have := congrArg List.length h
    rw [List.length_drop, List.length_append] at this
    omega
  have hpl : (encB n).length = p.length + 1 := by rw [e1]; simp
  have hend : a + (encB n).length ≤ s.size := by omega
  refine ⟨?_, hend⟩
  have hbyte : ∀ k (hk : k < (encB n).length), byteAt s ((a + k : Nat) : Int) = ((((encB n)[k]).toNat : Nat) : Int) := by
    intro k hk
    have hll : a + k < s.data.toList.length := by omega
    rw [byte_at hll]
    have : s.data.toList[a + k] = (encB n)[k] := by
      have h1 : (s.data.toList.drop a)[k]? = (encB n ++ rest)[k]? := by rw [h]
      rw [List.getElem?_drop, List.getElem?_append_left hk, List.getElem?_eq_getElem hll, List.getElem?_eq_getElem hk] at h1
      exact Option.some.inj h1
    rw [this]
  have harith : ∀ k (hk : k < (encB n).length), IntKind.i64.wrap (((decB ((encB n).take k) : Nat) : Int) + IntKind.i64.wrap (((((encB n)[k]).toNat % 128 : Nat) : Int) * ((128 ^ k : Nat) : Int))) = ((decB ((encB n).take (k + 1)) : Nat) : Int) ∧ IntKind.i64.wrap (((128 ^ k : Nat) : Int) * (128 : Int)) = ((128 ^ (k + 1) : Nat) : Int) := by
    intro k hk
    have hseg : (encB n).take (k + 1) = (encB n).take k ++ [(encB n)[k]] := List.take_succ_eq_append_getElem hk
    have hslen : ((encB n).take k).length = k := by simp; omega
    have hdec := decB_snoc ((encB n).take k) (encB n)[k]
    rw [← hseg, hslen] at hdec
    have hlt2 := decB_lt ((encB n).take (k + 1))
    have hslen2 : ((encB n).take (k + 1)).length = k + 1 := by simp; omega
    rw [hslen2] at hlt2
    have h128 : 128 ^ (k + 1) ≤ 34359738368 := by
      have := Nat.pow_le_pow_right (show 0 < 128 by omega) (show k + 1 ≤ 5 by omega)
      omega
    have h128k : 128 ^ k ≤ 268435456 := by
      have := Nat.pow_le_pow_right (show 0 < 128 by omega) (show k ≤ 4 by omega)
      omega
    have hmul : ((((encB n)[k]).toNat % 128 : Nat) : Int) * ((128 ^ k : Nat) : Int) = ((((encB n)[k]).toNat % 128 * 128 ^ k : Nat) : Int) := (Int.natCast_mul _ _).symm
    refine ⟨?_, ?_⟩
    · have hi : IntKind.i64.wrap ((((encB n)[k]).toNat % 128 * 128 ^ k : Nat) : Int) = ((((encB n)[k]).toNat % 128 * 128 ^ k : Nat) : Int) := wrap_id (by omega) (by omega)
      rw [hmul, hi, wrap_id (by omega) (by omega)]
      omega
    · rw [Nat.pow_succ, wrap_id] <;> omega
  have key := loop_run (round := impl_ReadVar_r0) (e := .inr (((n : Nat) : Int), ((a + (encB n).length : Nat) : Int), true, ())) p.length (fun k => (s, ((a : Nat) : Int), ((decB ((encB n).take k) : Nat) : Int), ((128 ^ k : Nat) : Int), ((k : Nat) : Int), ())) (by
      have hk : p.length < (encB n).length := by omega
      obtain ⟨a1, a2⟩ := harith p.length hk
      have hb := hbyte p.length hk
      have hg : (encB n)[p.length] = b := by simp [e1]
      have htk : (encB n).take (p.length + 1) = encB n := by rw [← hpl]; exact List.take_length
      rw [hg] at hb a1
      rw [htk, e4] at a1
      have hmod : Int.tmod ((b.toNat : Nat) : Int) (128 : Int) = ((b.toNat % 128 : Nat) : Int) := rfl
      have wk : IntKind.i64.wrap (((a : Nat) : Int) + ((p.length : Nat) : Int)) = ((a + p.length : Nat) : Int) := by rw [wrap_id] <;> omega
      have wb : IntKind.i64.wrap ((b.toNat : Nat) : Int) = ((b.toNat : Nat) : Int) := by rw [wrap_id] <;> omega
      have ws : IntKind.i64.wrap (((a + p.length : Nat) : Int) + (1 : Int)) = ((a + p.length + 1 : Nat) : Int) := by rw [wrap_id] <;> omega
      simp only [impl_ReadVar_r0, impl_ReadVar_c0, wk, dec_true (show ((p.length : Nat) : Int) < (5 : Int) by omega), lt_nat_true (show a + p.length < s.size by omega), zero_le_nat, cond_true, hb, wb, hmod, a1, ws, dec_false (show ¬ (128 : Int) ≤ ((b.toNat : Nat) : Int) by omega), cond_false, dec_false (show ¬ (1000000000 : Int) < ((n : Nat) : Int) by omega)]
      have hfin : ((a + p.length + 1 : Nat) : Int) = ((a + (encB n).length : Nat) : Int) := by omega
      rw [hfin]
      by_cases hb0 : ((b.toNat : Nat) : Int) = 0
      · rw [dec_true hb0]
        have : p.length = 0 := by
          rcases e5 with rfl | h5
          · rfl
          · exact absurd (UInt8.toNat_inj.1 (show b.toNat = (0 : UInt8).toNat by have : (0 : UInt8).toNat = 0 := rfl; omega)) h5
        rw [dec_false (show ¬ (0 : Int) < ((p.length : Nat) : Int) by omega)]
        rfl
      · rw [dec_false hb0]
        rfl) (fun k hkp => by
      have hk : k < (encB n).length := by omega
      obtain ⟨a1, a2⟩ := harith k hk
      have hb := hbyte k hk
      have hg : (encB n)[k] = p[k] := by simp [e1, List.getElem_append_left hkp]
      rw [hg] at hb a1
      have hge := e2 p[k] (List.getElem_mem hkp)
      generalize hbd : p[k] = x at *
      have hx256 := x.toNat_lt
      have hmod : Int.tmod ((x.toNat : Nat) : Int) (128 : Int) = ((x.toNat % 128 : Nat) : Int) := rfl
      have wk : IntKind.i64.wrap (((a : Nat) : Int) + ((k : Nat) : Int)) = ((a + k : Nat) : Int) := by rw [wrap_id] <;> omega
      have wb : IntKind.i64.wrap ((x.toNat : Nat) : Int) = ((x.toNat : Nat) : Int) := by rw [wrap_id] <;> omega
      simp only [impl_ReadVar_r0, impl_ReadVar_c0, wk, dec_true (show ((k : Nat) : Int) < (5 : Int) by omega), lt_nat_true (show a + k < s.size by omega), zero_le_nat, cond_true, hb, wb, hmod, a1, a2, dec_true (show (128 : Int) ≤ ((x.toNat : Nat) : Int) by omega), succ_wrap (show k < 4611686018427387904 by omega)])
  have key : loopV impl_ReadVar_r0 (s, ((a : Nat) : Int), (0 : Int), (1 : Int), (0 : Int), ()) = some (.inr (((n : Nat) : Int), ((a + (encB n).length : Nat) : Int), true, ())) := key
  unfold impl_ReadVar
  rw [dec_false (show ¬ ((a : Nat) : Int) < 0 by omega), dec_false (show ¬ ((ByteArray.size s : Nat) : Int) < ((a : Nat) : Int) by omega), key]
  rfl
end Go.TM
