/- Sizes, copies, sameness: what the laws' own helping functions answer. -/
import Derived.Test.YtmljblppihbkdaaAF1
set_option linter.unusedSimpArgs false
set_option linter.unusedVariables false
namespace Go.TM
open Go

def Z_i (x : Int × Unit) : Prop := (-9223372036854775808 ≤ x.1 ∧ x.1 < 9223372036854775808) ∧ True
theorem z_i {x : Int × Unit} (h : SzR T_i x) : Z_i x := ⟨sz_int (szCons.1 h).1, trivial⟩
def W_i (_ : Int × Unit) : Nat := 0

/-! laws.szIntS -/
theorem sz_IntS (a0 : List (Int × Unit)) {left : Int} (hz : List.length a0 ≤ 9223372036854775807 ∧ ∀ y ∈ a0, Z_i y) (h0 : 0 ≤ left) (h1 : left ≤ 1048576) : Left (laws_szIntS a0 left) (List.length a0 + wl W_i a0) left := by
  obtain ⟨hlen, hel⟩ := hz
  unfold laws_szIntS
  rw [wrap_id (by omega) (by omega)]
  by_cases hd : left - ((List.length a0 : Nat) : Int) < 0
  · rw [dec_true hd]
    exact ⟨-1, rfl, by omega, by omega⟩
  rw [dec_false hd]
  simp only [cond_false]
  have hw : wl W_i a0 = 0 := wl_zero _ (fun _ => rfl) _
  exact ⟨_, rfl, by omega, by intro; omega⟩

def Z_iLiE (x : Int × (List (Int × Unit)) × Unit) : Prop := (-9223372036854775808 ≤ x.1 ∧ x.1 < 9223372036854775808) ∧ (List.length x.2.1 ≤ 9223372036854775807 ∧ ∀ y ∈ x.2.1, Z_i y) ∧ True
theorem z_iLiE {x : Int × (List (Int × Unit)) × Unit} (h : SzR T_iLiE x) : Z_iLiE x := ⟨sz_int (szCons.1 h).1, ⟨sz_len (szCons.1 (szCons.1 h).2).1, fun y hy => z_i (sz_el (szCons.1 (szCons.1 h).2).1 y hy)⟩, trivial⟩
def W_iLiE (x : Int × (List (Int × Unit)) × Unit) : Nat := (List.length x.2.1 + wl W_i x.2.1)

/-! laws.szRing -/
theorem sz_Ring (a0c0 : Int) (a0c1 : List (Int × Unit)) {left : Int} (hz : Z_iLiE (a0c0, a0c1, ())) (h0 : 0 ≤ left) (h1 : left ≤ 1048576) : Left (laws_szRing a0c0 a0c1 left) (W_iLiE (a0c0, a0c1, ())) left := by
  have hz : (-9223372036854775808 ≤ a0c0 ∧ a0c0 < 9223372036854775808) ∧ (List.length a0c1 ≤ 9223372036854775807 ∧ ∀ y ∈ a0c1, Z_i y) ∧ True := hz
  show Left _ ((List.length a0c1 + wl W_i a0c1)) left
  obtain ⟨z0, z1, _⟩ := hz
  unfold laws_szRing
  obtain ⟨m1, e1, l1, w1⟩ := sz_IntS a0c1 (left := left) z1 (by omega) (by omega)
  rw [e1]
  simp only [Option.bind_some]
  by_cases hd1 : m1 < 0
  · rw [dec_true hd1]
    exact ⟨-1, rfl, by omega, by omega⟩
  rw [dec_false hd1]
  simp only [cond_false]
  have w1 := w1 (by omega)
  exact ⟨_, rfl, by omega, by intro; omega⟩

/-! laws.toIntS -/
theorem to_IntS (a0 : List (Int × Unit)) (h : List.length a0 + wl W_i a0 ≤ 4194304) : laws_toIntS a0 = some (a0, ()) := by
  have hl : loopV laws_toIntS_r0 (a0, List.replicate a0.length ((0 : Int), ()), (0 : Int), ()) = some (.inl (a0, ())) := by
    have := loop_run (round := laws_toIntS_r0) (e := .inl (a0, ())) a0.length (fun k => (a0, a0.take k ++ List.replicate (a0.length - k) ((0 : Int), ()), ((k : Nat) : Int), ())) (by
      simp only [laws_toIntS_r0, laws_toIntS_c0, lt_nat_irr, cond_false, List.take_length, Nat.sub_self, List.replicate_zero, List.append_nil]) (fun k hk => by
      have hb : k < (a0.take k ++ List.replicate (a0.length - k) (((0 : Int), ()) : Int × Unit)).length := by simp; omega
      simp only [laws_toIntS_r0, laws_toIntS_c0, lt_nat_true hk, zero_le_nat, cond_true, toNat_nat, List.getElem?_eq_getElem hk, List.getElem?_eq_getElem hb, Option.bind_some, blt_true hb, succ_wrap (show k < 4611686018427387904 by omega)]
      rw [← copy_set a0 _ hk])
    simpa using this
  unfold laws_toIntS
  simp only [decide_true, zero_le_nat, cond_true, toNat_nat, ble_true (show a0.length * 8 ≤ lim by unfold lim; omega), hl, outK_inl]

/-! laws.toRing -/
theorem to_Ring (a0c0 : Int) (a0c1 : List (Int × Unit)) (h : W_iLiE (a0c0, a0c1, ()) ≤ 4194304) : laws_toRing a0c0 a0c1 = some (a0c0, a0c1, ()) := by
  have h : (List.length a0c1 + wl W_i a0c1) ≤ 4194304 := h
  unfold laws_toRing
  simp only [Option.bind_some, to_IntS a0c1 (by show (List.length a0c1 + wl W_i a0c1) ≤ 4194304; omega)]

/-! laws.eqIntS -/
theorem eq_IntS (a0 : List (Int × Unit)) (h : List.length a0 + wl W_i a0 ≤ 4194304) : laws_eqIntS a0 a0 = some (true, ()) := by
  have hl : loopV laws_eqIntS_r0 (a0, a0, (0 : Int), ()) = some (.inl ()) := by
    have := loop_run (round := laws_eqIntS_r0) (e := .inl ()) a0.length (fun k => (a0, a0, ((k : Nat) : Int), ())) (by
      simp only [laws_eqIntS_r0, laws_eqIntS_c0, lt_nat_irr, cond_false]) (fun k hk => by
      simp only [laws_eqIntS_r0, laws_eqIntS_c0, lt_nat_true hk, zero_le_nat, cond_true, cond_false, toNat_nat, List.getElem?_eq_getElem hk, Option.bind_some, decide_true, beq_self_eq_true, strEq_self, Bool.not_true, succ_wrap (show k < 4611686018427387904 by omega)])
    simpa using this
  unfold laws_eqIntS
  simp only [decide_true, Bool.not_true, cond_false, hl, outK_inl]

/-! laws.eqRing -/
theorem eq_Ring (a0c0 : Int) (a0c1 : List (Int × Unit)) (h : W_iLiE (a0c0, a0c1, ()) ≤ 4194304) : laws_eqRing a0c0 a0c1 a0c0 a0c1 = some (true, ()) := by
  have h : (List.length a0c1 + wl W_i a0c1) ≤ 4194304 := h
  unfold laws_eqRing
  simp only [decide_true, beq_self_eq_true, Bool.not_true, Bool.not_false, cond_true, cond_false, strEq_self, Option.bind_some, eq_IntS a0c1 (by show (List.length a0c1 + wl W_i a0c1) ≤ 4194304; omega)]

def Z_iiis (x : Int × Int × Int × ByteArray × Unit) : Prop := (-9223372036854775808 ≤ x.1 ∧ x.1 < 9223372036854775808) ∧ (-9223372036854775808 ≤ x.2.1 ∧ x.2.1 < 9223372036854775808) ∧ (-9223372036854775808 ≤ x.2.2.1 ∧ x.2.2.1 < 9223372036854775808) ∧ (ByteArray.size x.2.2.2.1 ≤ 9223372036854775807) ∧ True
theorem z_iiis {x : Int × Int × Int × ByteArray × Unit} (h : SzR T_iiis x) : Z_iiis x := ⟨sz_int (szCons.1 h).1, sz_int (szCons.1 (szCons.1 h).2).1, sz_int (szCons.1 (szCons.1 (szCons.1 h).2).2).1, sz_str (szCons.1 (szCons.1 (szCons.1 (szCons.1 h).2).2).2).1, trivial⟩
def W_iiis (x : Int × Int × Int × ByteArray × Unit) : Nat := ByteArray.size x.2.2.2.1

/-! laws.eqItem -/
theorem eq_Item (a0c0 : Int) (a0c1 : Int) (a0c2 : Int) (a0c3 : ByteArray) (h : W_iiis (a0c0, a0c1, a0c2, a0c3, ()) ≤ 4194304) : laws_eqItem a0c0 a0c1 a0c2 a0c3 a0c0 a0c1 a0c2 a0c3 = some (true, ()) := by
  have h : ByteArray.size a0c3 ≤ 4194304 := h
  unfold laws_eqItem
  simp only [decide_true, beq_self_eq_true, Bool.not_true, Bool.not_false, cond_true, cond_false, strEq_self, Option.bind_some]

/-! laws.eqItemS -/
theorem eq_ItemS (a0 : List R_iiis) (h : List.length a0 + wl W_iiis a0 ≤ 4194304) : laws_eqItemS a0 a0 = some (true, ()) := by
  have hl : loopV laws_eqItemS_r0 (a0, a0, (0 : Int), ()) = some (.inl ()) := by
    have := loop_run (round := laws_eqItemS_r0) (e := .inl ()) a0.length (fun k => (a0, a0, ((k : Nat) : Int), ())) (by
      simp only [laws_eqItemS_r0, laws_eqItemS_c0, lt_nat_irr, cond_false]) (fun k hk => by
      simp only [laws_eqItemS_r0, laws_eqItemS_c0, lt_nat_true hk, zero_le_nat, cond_true, cond_false, toNat_nat, List.getElem?_eq_getElem hk, Option.bind_some, decide_true, beq_self_eq_true, strEq_self, Bool.not_true, succ_wrap (show k < 4611686018427387904 by omega), eq_Item ((a0[k]).1) ((a0[k]).2.1) ((a0[k]).2.2.1) ((a0[k]).2.2.2.1) (Nat.le_trans (wl_mem W_iiis a0 _ (List.getElem_mem hk)) (by omega))])
    simpa using this
  unfold laws_eqItemS
  simp only [decide_true, Bool.not_true, cond_false, hl, outK_inl]

def Z_s (x : ByteArray × Unit) : Prop := (ByteArray.size x.1 ≤ 9223372036854775807) ∧ True
theorem z_s {x : ByteArray × Unit} (h : SzR T_s x) : Z_s x := ⟨sz_str (szCons.1 h).1, trivial⟩
def W_s (x : ByteArray × Unit) : Nat := ByteArray.size x.1

/-! laws.eqStringS -/
theorem eq_StringS (a0 : List (ByteArray × Unit)) (h : List.length a0 + wl W_s a0 ≤ 4194304) : laws_eqStringS a0 a0 = some (true, ()) := by
  have hl : loopV laws_eqStringS_r0 (a0, a0, (0 : Int), ()) = some (.inl ()) := by
    have := loop_run (round := laws_eqStringS_r0) (e := .inl ()) a0.length (fun k => (a0, a0, ((k : Nat) : Int), ())) (by
      simp only [laws_eqStringS_r0, laws_eqStringS_c0, lt_nat_irr, cond_false]) (fun k hk => by
      simp only [laws_eqStringS_r0, laws_eqStringS_c0, lt_nat_true hk, zero_le_nat, cond_true, cond_false, toNat_nat, List.getElem?_eq_getElem hk, Option.bind_some, decide_true, beq_self_eq_true, strEq_self, Bool.not_true, succ_wrap (show k < 4611686018427387904 by omega)])
    simpa using this
  unfold laws_eqStringS
  simp only [decide_true, Bool.not_true, cond_false, hl, outK_inl]

def Z_iiiiiLiE (x : Int × Int × Int × Int × Int × (List (Int × Unit)) × Unit) : Prop := (-9223372036854775808 ≤ x.1 ∧ x.1 < 9223372036854775808) ∧ (-9223372036854775808 ≤ x.2.1 ∧ x.2.1 < 9223372036854775808) ∧ (-9223372036854775808 ≤ x.2.2.1 ∧ x.2.2.1 < 9223372036854775808) ∧ (-9223372036854775808 ≤ x.2.2.2.1 ∧ x.2.2.2.1 < 9223372036854775808) ∧ (-9223372036854775808 ≤ x.2.2.2.2.1 ∧ x.2.2.2.2.1 < 9223372036854775808) ∧ (List.length x.2.2.2.2.2.1 ≤ 9223372036854775807 ∧ ∀ y ∈ x.2.2.2.2.2.1, Z_i y) ∧ True
theorem z_iiiiiLiE {x : Int × Int × Int × Int × Int × (List (Int × Unit)) × Unit} (h : SzR T_iiiiiLiE x) : Z_iiiiiLiE x := ⟨sz_int (szCons.1 h).1, sz_int (szCons.1 (szCons.1 h).2).1, sz_int (szCons.1 (szCons.1 (szCons.1 h).2).2).1, sz_int (szCons.1 (szCons.1 (szCons.1 (szCons.1 h).2).2).2).1, sz_int (szCons.1 (szCons.1 (szCons.1 (szCons.1 (szCons.1 h).2).2).2).2).1, ⟨sz_len (szCons.1 (szCons.1 (szCons.1 (szCons.1 (szCons.1 (szCons.1 h).2).2).2).2).2).1, fun y hy => z_i (sz_el (szCons.1 (szCons.1 (szCons.1 (szCons.1 (szCons.1 (szCons.1 h).2).2).2).2).2).1 y hy)⟩, trivial⟩
def W_iiiiiLiE (x : Int × Int × Int × Int × Int × (List (Int × Unit)) × Unit) : Nat := (List.length x.2.2.2.2.2.1 + wl W_i x.2.2.2.2.2.1)

/-! laws.eqToken -/
theorem eq_Token (a0c0 : Int) (a0c1 : Int) (a0c2 : Int) (a0c3 : Int) (a0c4 : Int) (a0c5 : List (Int × Unit)) (h : W_iiiiiLiE (a0c0, a0c1, a0c2, a0c3, a0c4, a0c5, ()) ≤ 4194304) : laws_eqToken a0c0 a0c1 a0c2 a0c3 a0c4 a0c5 a0c0 a0c1 a0c2 a0c3 a0c4 a0c5 = some (true, ()) := by
  have h : (List.length a0c5 + wl W_i a0c5) ≤ 4194304 := h
  unfold laws_eqToken
  simp only [decide_true, beq_self_eq_true, Bool.not_true, Bool.not_false, cond_true, cond_false, strEq_self, Option.bind_some, eq_IntS a0c5 (by show (List.length a0c5 + wl W_i a0c5) ≤ 4194304; omega)]

def Z_iiLiELiiisELiELsEiiiiiiiiiLiE (x : Int × Int × (List (Int × Unit)) × (List R_iiis) × (List (Int × Unit)) × (List (ByteArray × Unit)) × Int × Int × Int × Int × Int × Int × Int × Int × Int × (List (Int × Unit)) × Unit) : Prop := (-9223372036854775808 ≤ x.1 ∧ x.1 < 9223372036854775808) ∧ (-9223372036854775808 ≤ x.2.1 ∧ x.2.1 < 9223372036854775808) ∧ (List.length x.2.2.1 ≤ 9223372036854775807 ∧ ∀ y ∈ x.2.2.1, Z_i y) ∧ (List.length x.2.2.2.1 ≤ 9223372036854775807 ∧ ∀ y ∈ x.2.2.2.1, Z_iiis y) ∧ (List.length x.2.2.2.2.1 ≤ 9223372036854775807 ∧ ∀ y ∈ x.2.2.2.2.1, Z_i y) ∧ (List.length x.2.2.2.2.2.1 ≤ 9223372036854775807 ∧ ∀ y ∈ x.2.2.2.2.2.1, Z_s y) ∧ (-9223372036854775808 ≤ x.2.2.2.2.2.2.1 ∧ x.2.2.2.2.2.2.1 < 9223372036854775808) ∧ (-9223372036854775808 ≤ x.2.2.2.2.2.2.2.1 ∧ x.2.2.2.2.2.2.2.1 < 9223372036854775808) ∧ (-9223372036854775808 ≤ x.2.2.2.2.2.2.2.2.1 ∧ x.2.2.2.2.2.2.2.2.1 < 9223372036854775808) ∧ (-9223372036854775808 ≤ x.2.2.2.2.2.2.2.2.2.1 ∧ x.2.2.2.2.2.2.2.2.2.1 < 9223372036854775808) ∧ (-9223372036854775808 ≤ x.2.2.2.2.2.2.2.2.2.2.1 ∧ x.2.2.2.2.2.2.2.2.2.2.1 < 9223372036854775808) ∧ (-9223372036854775808 ≤ x.2.2.2.2.2.2.2.2.2.2.2.1 ∧ x.2.2.2.2.2.2.2.2.2.2.2.1 < 9223372036854775808) ∧ (-9223372036854775808 ≤ x.2.2.2.2.2.2.2.2.2.2.2.2.1 ∧ x.2.2.2.2.2.2.2.2.2.2.2.2.1 < 9223372036854775808) ∧ (-9223372036854775808 ≤ x.2.2.2.2.2.2.2.2.2.2.2.2.2.1 ∧ x.2.2.2.2.2.2.2.2.2.2.2.2.2.1 < 9223372036854775808) ∧ (-9223372036854775808 ≤ x.2.2.2.2.2.2.2.2.2.2.2.2.2.2.1 ∧ x.2.2.2.2.2.2.2.2.2.2.2.2.2.2.1 < 9223372036854775808) ∧ (List.length x.2.2.2.2.2.2.2.2.2.2.2.2.2.2.2.1 ≤ 9223372036854775807 ∧ ∀ y ∈ x.2.2.2.2.2.2.2.2.2.2.2.2.2.2.2.1, Z_i y) ∧ True
theorem z_iiLiELiiisELiELsEiiiiiiiiiLiE {x : Int × Int × (List (Int × Unit)) × (List R_iiis) × (List (Int × Unit)) × (List (ByteArray × Unit)) × Int × Int × Int × Int × Int × Int × Int × Int × Int × (List (Int × Unit)) × Unit} (h : SzR T_iiLiELiiisELiELsEiiiiiiiiiLiE x) : Z_iiLiELiiisELiELsEiiiiiiiiiLiE x := ⟨sz_int (szCons.1 h).1, sz_int (szCons.1 (szCons.1 h).2).1, ⟨sz_len (szCons.1 (szCons.1 (szCons.1 h).2).2).1, fun y hy => z_i (sz_el (szCons.1 (szCons.1 (szCons.1 h).2).2).1 y hy)⟩, ⟨sz_len (szCons.1 (szCons.1 (szCons.1 (szCons.1 h).2).2).2).1, fun y hy => z_iiis (sz_el (szCons.1 (szCons.1 (szCons.1 (szCons.1 h).2).2).2).1 y hy)⟩, ⟨sz_len (szCons.1 (szCons.1 (szCons.1 (szCons.1 (szCons.1 h).2).2).2).2).1, fun y hy => z_i (sz_el (szCons.1 (szCons.1 (szCons.1 (szCons.1 (szCons.1 h).2).2).2).2).1 y hy)⟩, ⟨sz_len (szCons.1 (szCons.1 (szCons.1 (szCons.1 (szCons.1 (szCons.1 h).2).2).2).2).2).1, fun y hy => z_s (sz_el (szCons.1 (szCons.1 (szCons.1 (szCons.1 (szCons.1 (szCons.1 h).2).2).2).2).2).1 y hy)⟩, sz_int (szCons.1 (szCons.1 (szCons.1 (szCons.1 (szCons.1 (szCons.1 (szCons.1 h).2).2).2).2).2).2).1, sz_int (szCons.1 (szCons.1 (szCons.1 (szCons.1 (szCons.1 (szCons.1 (szCons.1 (szCons.1 h).2).2).2).2).2).2).2).1, sz_int (szCons.1 (szCons.1 (szCons.1 (szCons.1 (szCons.1 (szCons.1 (szCons.1 (szCons.1 (szCons.1 h).2).2).2).2).2).2).2).2).1, sz_int (szCons.1 (szCons.1 (szCons.1 (szCons.1 (szCons.1 (szCons.1 (szCons.1 (szCons.1 (szCons.1 (szCons.1 h).2).2).2).2).2).2).2).2).2).1, sz_int (szCons.1 (szCons.1 (szCons.1 (szCons.1 (szCons.1 (szCons.1 (szCons.1 (szCons.1 (szCons.1 (szCons.1 (szCons.1 h).2).2).2).2).2).2).2).2).2).2).1, sz_int (szCons.1 (szCons.1 (szCons.1 (szCons.1 (szCons.1 (szCons.1 (szCons.1 (szCons.1 (szCons.1 (szCons.1 (szCons.1 (szCons.1 h).2).2).2).2).2).2).2).2).2).2).2).1, sz_int (szCons.1 (szCons.1 (szCons.1 (szCons.1 (szCons.1 (szCons.1 (szCons.1 (szCons.1 (szCons.1 (szCons.1 (szCons.1 (szCons.1 (szCons.1 h).2).2).2).2).2).2).2).2).2).2).2).2).1, sz_int (szCons.1 (szCons.1 (szCons.1 (szCons.1 (szCons.1 (szCons.1 (szCons.1 (szCons.1 (szCons.1 (szCons.1 (szCons.1 (szCons.1 (szCons.1 (szCons.1 h).2).2).2).2).2).2).2).2).2).2).2).2).2).1, sz_int (szCons.1 (szCons.1 (szCons.1 (szCons.1 (szCons.1 (szCons.1 (szCons.1 (szCons.1 (szCons.1 (szCons.1 (szCons.1 (szCons.1 (szCons.1 (szCons.1 (szCons.1 h).2).2).2).2).2).2).2).2).2).2).2).2).2).2).1, ⟨sz_len (szCons.1 (szCons.1 (szCons.1 (szCons.1 (szCons.1 (szCons.1 (szCons.1 (szCons.1 (szCons.1 (szCons.1 (szCons.1 (szCons.1 (szCons.1 (szCons.1 (szCons.1 (szCons.1 h).2).2).2).2).2).2).2).2).2).2).2).2).2).2).2).1, fun y hy => z_i (sz_el (szCons.1 (szCons.1 (szCons.1 (szCons.1 (szCons.1 (szCons.1 (szCons.1 (szCons.1 (szCons.1 (szCons.1 (szCons.1 (szCons.1 (szCons.1 (szCons.1 (szCons.1 (szCons.1 h).2).2).2).2).2).2).2).2).2).2).2).2).2).2).2).1 y hy)⟩, trivial⟩
def W_iiLiELiiisELiELsEiiiiiiiiiLiE (x : Int × Int × (List (Int × Unit)) × (List R_iiis) × (List (Int × Unit)) × (List (ByteArray × Unit)) × Int × Int × Int × Int × Int × Int × Int × Int × Int × (List (Int × Unit)) × Unit) : Nat := (List.length x.2.2.1 + wl W_i x.2.2.1) + (List.length x.2.2.2.1 + wl W_iiis x.2.2.2.1) + (List.length x.2.2.2.2.1 + wl W_i x.2.2.2.2.1) + (List.length x.2.2.2.2.2.1 + wl W_s x.2.2.2.2.2.1) + (List.length x.2.2.2.2.2.2.2.2.2.2.2.2.2.2.2.1 + wl W_i x.2.2.2.2.2.2.2.2.2.2.2.2.2.2.2.1)

/-! laws.eqMate -/
theorem eq_Mate (a0c0 : Int) (a0c1 : Int) (a0c2 : List (Int × Unit)) (a0c3 : List R_iiis) (a0c4 : List (Int × Unit)) (a0c5 : List (ByteArray × Unit)) (a0c6 : Int) (a0c7 : Int) (a0c8 : Int) (a0c9 : Int) (a0c10 : Int) (a0c11 : Int) (a0c12 : Int) (a0c13 : Int) (a0c14 : Int) (a0c15 : List (Int × Unit)) (h : W_iiLiELiiisELiELsEiiiiiiiiiLiE (a0c0, a0c1, a0c2, a0c3, a0c4, a0c5, a0c6, a0c7, a0c8, a0c9, a0c10, a0c11, a0c12, a0c13, a0c14, a0c15, ()) ≤ 4194304) : laws_eqMate a0c0 a0c1 a0c2 a0c3 a0c4 a0c5 a0c6 a0c7 a0c8 a0c9 a0c10 a0c11 a0c12 a0c13 a0c14 a0c15 a0c0 a0c1 a0c2 a0c3 a0c4 a0c5 a0c6 a0c7 a0c8 a0c9 a0c10 a0c11 a0c12 a0c13 a0c14 a0c15 = some (true, ()) := by
  have h : (List.length a0c2 + wl W_i a0c2) + (List.length a0c3 + wl W_iiis a0c3) + (List.length a0c4 + wl W_i a0c4) + (List.length a0c5 + wl W_s a0c5) + (List.length a0c15 + wl W_i a0c15) ≤ 4194304 := h
  unfold laws_eqMate
  simp only [decide_true, beq_self_eq_true, Bool.not_true, Bool.not_false, cond_true, cond_false, strEq_self, Option.bind_some, eq_Ring a0c1 a0c2 (by show (List.length a0c2 + wl W_i a0c2) ≤ 4194304; omega), eq_ItemS a0c3 (by show (List.length a0c3 + wl W_iiis a0c3) ≤ 4194304; omega), eq_IntS a0c4 (by show (List.length a0c4 + wl W_i a0c4) ≤ 4194304; omega), eq_StringS a0c5 (by show (List.length a0c5 + wl W_s a0c5) ≤ 4194304; omega), eq_Token a0c10 a0c11 a0c12 a0c13 a0c14 a0c15 (by show (List.length a0c15 + wl W_i a0c15) ≤ 4194304; omega)]

/-! laws.eqMateS -/
theorem eq_MateS (a0 : List R_iiLiELiiisELiELsEiiiiiiiiiLiE) (h : List.length a0 + wl W_iiLiELiiisELiELsEiiiiiiiiiLiE a0 ≤ 4194304) : laws_eqMateS a0 a0 = some (true, ()) := by
  have hl : loopV laws_eqMateS_r0 (a0, a0, (0 : Int), ()) = some (.inl ()) := by
    have := loop_run (round := laws_eqMateS_r0) (e := .inl ()) a0.length (fun k => (a0, a0, ((k : Nat) : Int), ())) (by
      simp only [laws_eqMateS_r0, laws_eqMateS_c0, lt_nat_irr, cond_false]) (fun k hk => by
      simp only [laws_eqMateS_r0, laws_eqMateS_c0, lt_nat_true hk, zero_le_nat, cond_true, cond_false, toNat_nat, List.getElem?_eq_getElem hk, Option.bind_some, decide_true, beq_self_eq_true, strEq_self, Bool.not_true, succ_wrap (show k < 4611686018427387904 by omega), eq_Mate ((a0[k]).1) ((a0[k]).2.1) ((a0[k]).2.2.1) ((a0[k]).2.2.2.1) ((a0[k]).2.2.2.2.1) ((a0[k]).2.2.2.2.2.1) ((a0[k]).2.2.2.2.2.2.1) ((a0[k]).2.2.2.2.2.2.2.1) ((a0[k]).2.2.2.2.2.2.2.2.1) ((a0[k]).2.2.2.2.2.2.2.2.2.1) ((a0[k]).2.2.2.2.2.2.2.2.2.2.1) ((a0[k]).2.2.2.2.2.2.2.2.2.2.2.1) ((a0[k]).2.2.2.2.2.2.2.2.2.2.2.2.1) ((a0[k]).2.2.2.2.2.2.2.2.2.2.2.2.2.1) ((a0[k]).2.2.2.2.2.2.2.2.2.2.2.2.2.2.1) ((a0[k]).2.2.2.2.2.2.2.2.2.2.2.2.2.2.2.1) (Nat.le_trans (wl_mem W_iiLiELiiisELiELsEiiiiiiiiiLiE a0 _ (List.getElem_mem hk)) (by omega))])
    simpa using this
  unfold laws_eqMateS
  simp only [decide_true, Bool.not_true, cond_false, hl, outK_inl]

def Z_ibiiiiiLiEiiis (x : Int × Bool × Int × Int × Int × Int × Int × (List (Int × Unit)) × Int × Int × Int × ByteArray × Unit) : Prop := (-9223372036854775808 ≤ x.1 ∧ x.1 < 9223372036854775808) ∧ (True) ∧ (-9223372036854775808 ≤ x.2.2.1 ∧ x.2.2.1 < 9223372036854775808) ∧ (-9223372036854775808 ≤ x.2.2.2.1 ∧ x.2.2.2.1 < 9223372036854775808) ∧ (-9223372036854775808 ≤ x.2.2.2.2.1 ∧ x.2.2.2.2.1 < 9223372036854775808) ∧ (-9223372036854775808 ≤ x.2.2.2.2.2.1 ∧ x.2.2.2.2.2.1 < 9223372036854775808) ∧ (-9223372036854775808 ≤ x.2.2.2.2.2.2.1 ∧ x.2.2.2.2.2.2.1 < 9223372036854775808) ∧ (List.length x.2.2.2.2.2.2.2.1 ≤ 9223372036854775807 ∧ ∀ y ∈ x.2.2.2.2.2.2.2.1, Z_i y) ∧ (-9223372036854775808 ≤ x.2.2.2.2.2.2.2.2.1 ∧ x.2.2.2.2.2.2.2.2.1 < 9223372036854775808) ∧ (-9223372036854775808 ≤ x.2.2.2.2.2.2.2.2.2.1 ∧ x.2.2.2.2.2.2.2.2.2.1 < 9223372036854775808) ∧ (-9223372036854775808 ≤ x.2.2.2.2.2.2.2.2.2.2.1 ∧ x.2.2.2.2.2.2.2.2.2.2.1 < 9223372036854775808) ∧ (ByteArray.size x.2.2.2.2.2.2.2.2.2.2.2.1 ≤ 9223372036854775807) ∧ True
theorem z_ibiiiiiLiEiiis {x : Int × Bool × Int × Int × Int × Int × Int × (List (Int × Unit)) × Int × Int × Int × ByteArray × Unit} (h : SzR T_ibiiiiiLiEiiis x) : Z_ibiiiiiLiEiiis x := ⟨sz_int (szCons.1 h).1, trivial, sz_int (szCons.1 (szCons.1 (szCons.1 h).2).2).1, sz_int (szCons.1 (szCons.1 (szCons.1 (szCons.1 h).2).2).2).1, sz_int (szCons.1 (szCons.1 (szCons.1 (szCons.1 (szCons.1 h).2).2).2).2).1, sz_int (szCons.1 (szCons.1 (szCons.1 (szCons.1 (szCons.1 (szCons.1 h).2).2).2).2).2).1, sz_int (szCons.1 (szCons.1 (szCons.1 (szCons.1 (szCons.1 (szCons.1 (szCons.1 h).2).2).2).2).2).2).1, ⟨sz_len (szCons.1 (szCons.1 (szCons.1 (szCons.1 (szCons.1 (szCons.1 (szCons.1 (szCons.1 h).2).2).2).2).2).2).2).1, fun y hy => z_i (sz_el (szCons.1 (szCons.1 (szCons.1 (szCons.1 (szCons.1 (szCons.1 (szCons.1 (szCons.1 h).2).2).2).2).2).2).2).1 y hy)⟩, sz_int (szCons.1 (szCons.1 (szCons.1 (szCons.1 (szCons.1 (szCons.1 (szCons.1 (szCons.1 (szCons.1 h).2).2).2).2).2).2).2).2).1, sz_int (szCons.1 (szCons.1 (szCons.1 (szCons.1 (szCons.1 (szCons.1 (szCons.1 (szCons.1 (szCons.1 (szCons.1 h).2).2).2).2).2).2).2).2).2).1, sz_int (szCons.1 (szCons.1 (szCons.1 (szCons.1 (szCons.1 (szCons.1 (szCons.1 (szCons.1 (szCons.1 (szCons.1 (szCons.1 h).2).2).2).2).2).2).2).2).2).2).1, sz_str (szCons.1 (szCons.1 (szCons.1 (szCons.1 (szCons.1 (szCons.1 (szCons.1 (szCons.1 (szCons.1 (szCons.1 (szCons.1 (szCons.1 h).2).2).2).2).2).2).2).2).2).2).2).1, trivial⟩
def W_ibiiiiiLiEiiis (x : Int × Bool × Int × Int × Int × Int × Int × (List (Int × Unit)) × Int × Int × Int × ByteArray × Unit) : Nat := (List.length x.2.2.2.2.2.2.2.1 + wl W_i x.2.2.2.2.2.2.2.1) + ByteArray.size x.2.2.2.2.2.2.2.2.2.2.2.1

/-! laws.eqFly -/
theorem eq_Fly (a0c0 : Int) (a0c1 : Bool) (a0c2 : Int) (a0c3 : Int) (a0c4 : Int) (a0c5 : Int) (a0c6 : Int) (a0c7 : List (Int × Unit)) (a0c8 : Int) (a0c9 : Int) (a0c10 : Int) (a0c11 : ByteArray) (h : W_ibiiiiiLiEiiis (a0c0, a0c1, a0c2, a0c3, a0c4, a0c5, a0c6, a0c7, a0c8, a0c9, a0c10, a0c11, ()) ≤ 4194304) : laws_eqFly a0c0 a0c1 a0c2 a0c3 a0c4 a0c5 a0c6 a0c7 a0c8 a0c9 a0c10 a0c11 a0c0 a0c1 a0c2 a0c3 a0c4 a0c5 a0c6 a0c7 a0c8 a0c9 a0c10 a0c11 = some (true, ()) := by
  have h : (List.length a0c7 + wl W_i a0c7) + ByteArray.size a0c11 ≤ 4194304 := h
  unfold laws_eqFly
  simp only [decide_true, beq_self_eq_true, Bool.not_true, Bool.not_false, cond_true, cond_false, strEq_self, Option.bind_some, eq_Token a0c2 a0c3 a0c4 a0c5 a0c6 a0c7 (by show (List.length a0c7 + wl W_i a0c7) ≤ 4194304; omega), eq_Item a0c8 a0c9 a0c10 a0c11 (by show ByteArray.size a0c11 ≤ 4194304; omega)]

/-! laws.eqFlyS -/
theorem eq_FlyS (a0 : List R_ibiiiiiLiEiiis) (h : List.length a0 + wl W_ibiiiiiLiEiiis a0 ≤ 4194304) : laws_eqFlyS a0 a0 = some (true, ()) := by
  have hl : loopV laws_eqFlyS_r0 (a0, a0, (0 : Int), ()) = some (.inl ()) := by
    have := loop_run (round := laws_eqFlyS_r0) (e := .inl ()) a0.length (fun k => (a0, a0, ((k : Nat) : Int), ())) (by
      simp only [laws_eqFlyS_r0, laws_eqFlyS_c0, lt_nat_irr, cond_false]) (fun k hk => by
      simp only [laws_eqFlyS_r0, laws_eqFlyS_c0, lt_nat_true hk, zero_le_nat, cond_true, cond_false, toNat_nat, List.getElem?_eq_getElem hk, Option.bind_some, decide_true, beq_self_eq_true, strEq_self, Bool.not_true, succ_wrap (show k < 4611686018427387904 by omega), eq_Fly ((a0[k]).1) ((a0[k]).2.1) ((a0[k]).2.2.1) ((a0[k]).2.2.2.1) ((a0[k]).2.2.2.2.1) ((a0[k]).2.2.2.2.2.1) ((a0[k]).2.2.2.2.2.2.1) ((a0[k]).2.2.2.2.2.2.2.1) ((a0[k]).2.2.2.2.2.2.2.2.1) ((a0[k]).2.2.2.2.2.2.2.2.2.1) ((a0[k]).2.2.2.2.2.2.2.2.2.2.1) ((a0[k]).2.2.2.2.2.2.2.2.2.2.2.1) (Nat.le_trans (wl_mem W_ibiiiiiLiEiiis a0 _ (List.getElem_mem hk)) (by omega))])
    simpa using this
  unfold laws_eqFlyS
  simp only [decide_true, Bool.not_true, cond_false, hl, outK_inl]

def Z_LiiisE (x : (List R_iiis) × Unit) : Prop := (List.length x.1 ≤ 9223372036854775807 ∧ ∀ y ∈ x.1, Z_iiis y) ∧ True
theorem z_LiiisE {x : (List R_iiis) × Unit} (h : SzR T_LiiisE x) : Z_LiiisE x := ⟨⟨sz_len (szCons.1 h).1, fun y hy => z_iiis (sz_el (szCons.1 h).1 y hy)⟩, trivial⟩
def W_LiiisE (x : (List R_iiis) × Unit) : Nat := (List.length x.1 + wl W_iiis x.1)

/-! laws.eqItemSS -/
theorem eq_ItemSS (a0 : List ((List R_iiis) × Unit)) (h : List.length a0 + wl W_LiiisE a0 ≤ 4194304) : laws_eqItemSS a0 a0 = some (true, ()) := by
  have hl : loopV laws_eqItemSS_r0 (a0, a0, (0 : Int), ()) = some (.inl ()) := by
    have := loop_run (round := laws_eqItemSS_r0) (e := .inl ()) a0.length (fun k => (a0, a0, ((k : Nat) : Int), ())) (by
      simp only [laws_eqItemSS_r0, laws_eqItemSS_c0, lt_nat_irr, cond_false]) (fun k hk => by
      simp only [laws_eqItemSS_r0, laws_eqItemSS_c0, lt_nat_true hk, zero_le_nat, cond_true, cond_false, toNat_nat, List.getElem?_eq_getElem hk, Option.bind_some, decide_true, beq_self_eq_true, strEq_self, Bool.not_true, succ_wrap (show k < 4611686018427387904 by omega), eq_ItemS ((a0[k]).1) (Nat.le_trans (wl_mem W_LiiisE a0 _ (List.getElem_mem hk)) (by omega))])
    simpa using this
  unfold laws_eqItemSS
  simp only [decide_true, Bool.not_true, cond_false, hl, outK_inl]

def Z_iLiELiiLiELiiisELiELsEiiiiiiiiiLiEELibiiiiiLiEiiisELLiiisEELiiisE (x : Int × (List (Int × Unit)) × (List R_iiLiELiiisELiELsEiiiiiiiiiLiE) × (List R_ibiiiiiLiEiiis) × (List ((List R_iiis) × Unit)) × (List R_iiis) × Unit) : Prop := (-9223372036854775808 ≤ x.1 ∧ x.1 < 9223372036854775808) ∧ (List.length x.2.1 ≤ 9223372036854775807 ∧ ∀ y ∈ x.2.1, Z_i y) ∧ (List.length x.2.2.1 ≤ 9223372036854775807 ∧ ∀ y ∈ x.2.2.1, Z_iiLiELiiisELiELsEiiiiiiiiiLiE y) ∧ (List.length x.2.2.2.1 ≤ 9223372036854775807 ∧ ∀ y ∈ x.2.2.2.1, Z_ibiiiiiLiEiiis y) ∧ (List.length x.2.2.2.2.1 ≤ 9223372036854775807 ∧ ∀ y ∈ x.2.2.2.2.1, Z_LiiisE y) ∧ (List.length x.2.2.2.2.2.1 ≤ 9223372036854775807 ∧ ∀ y ∈ x.2.2.2.2.2.1, Z_iiis y) ∧ True
theorem z_iLiELiiLiELiiisELiELsEiiiiiiiiiLiEELibiiiiiLiEiiisELLiiisEELiiisE {x : Int × (List (Int × Unit)) × (List R_iiLiELiiisELiELsEiiiiiiiiiLiE) × (List R_ibiiiiiLiEiiis) × (List ((List R_iiis) × Unit)) × (List R_iiis) × Unit} (h : SzR T_iLiELiiLiELiiisELiELsEiiiiiiiiiLiEELibiiiiiLiEiiisELLiiisEELiiisE x) : Z_iLiELiiLiELiiisELiELsEiiiiiiiiiLiEELibiiiiiLiEiiisELLiiisEELiiisE x := ⟨sz_int (szCons.1 h).1, ⟨sz_len (szCons.1 (szCons.1 h).2).1, fun y hy => z_i (sz_el (szCons.1 (szCons.1 h).2).1 y hy)⟩, ⟨sz_len (szCons.1 (szCons.1 (szCons.1 h).2).2).1, fun y hy => z_iiLiELiiisELiELsEiiiiiiiiiLiE (sz_el (szCons.1 (szCons.1 (szCons.1 h).2).2).1 y hy)⟩, ⟨sz_len (szCons.1 (szCons.1 (szCons.1 (szCons.1 h).2).2).2).1, fun y hy => z_ibiiiiiLiEiiis (sz_el (szCons.1 (szCons.1 (szCons.1 (szCons.1 h).2).2).2).1 y hy)⟩, ⟨sz_len (szCons.1 (szCons.1 (szCons.1 (szCons.1 (szCons.1 h).2).2).2).2).1, fun y hy => z_LiiisE (sz_el (szCons.1 (szCons.1 (szCons.1 (szCons.1 (szCons.1 h).2).2).2).2).1 y hy)⟩, ⟨sz_len (szCons.1 (szCons.1 (szCons.1 (szCons.1 (szCons.1 (szCons.1 h).2).2).2).2).2).1, fun y hy => z_iiis (sz_el (szCons.1 (szCons.1 (szCons.1 (szCons.1 (szCons.1 (szCons.1 h).2).2).2).2).2).1 y hy)⟩, trivial⟩
def W_iLiELiiLiELiiisELiELsEiiiiiiiiiLiEELibiiiiiLiEiiisELLiiisEELiiisE (x : Int × (List (Int × Unit)) × (List R_iiLiELiiisELiELsEiiiiiiiiiLiE) × (List R_ibiiiiiLiEiiis) × (List ((List R_iiis) × Unit)) × (List R_iiis) × Unit) : Nat := (List.length x.2.1 + wl W_i x.2.1) + (List.length x.2.2.1 + wl W_iiLiELiiisELiELsEiiiiiiiiiLiE x.2.2.1) + (List.length x.2.2.2.1 + wl W_ibiiiiiLiEiiis x.2.2.2.1) + (List.length x.2.2.2.2.1 + wl W_LiiisE x.2.2.2.2.1) + (List.length x.2.2.2.2.2.1 + wl W_iiis x.2.2.2.2.2.1)

/-! laws.eqWork -/
theorem eq_Work (a0c0 : Int) (a0c1 : List (Int × Unit)) (a0c2 : List R_iiLiELiiisELiELsEiiiiiiiiiLiE) (a0c3 : List R_ibiiiiiLiEiiis) (a0c4 : List ((List R_iiis) × Unit)) (a0c5 : List R_iiis) (h : W_iLiELiiLiELiiisELiELsEiiiiiiiiiLiEELibiiiiiLiEiiisELLiiisEELiiisE (a0c0, a0c1, a0c2, a0c3, a0c4, a0c5, ()) ≤ 4194304) : laws_eqWork a0c0 a0c1 a0c2 a0c3 a0c4 a0c5 a0c0 a0c1 a0c2 a0c3 a0c4 a0c5 = some (true, ()) := by
  have h : (List.length a0c1 + wl W_i a0c1) + (List.length a0c2 + wl W_iiLiELiiisELiELsEiiiiiiiiiLiE a0c2) + (List.length a0c3 + wl W_ibiiiiiLiEiiis a0c3) + (List.length a0c4 + wl W_LiiisE a0c4) + (List.length a0c5 + wl W_iiis a0c5) ≤ 4194304 := h
  unfold laws_eqWork
  simp only [decide_true, beq_self_eq_true, Bool.not_true, Bool.not_false, cond_true, cond_false, strEq_self, Option.bind_some, eq_Ring a0c0 a0c1 (by show (List.length a0c1 + wl W_i a0c1) ≤ 4194304; omega), eq_MateS a0c2 (by show (List.length a0c2 + wl W_iiLiELiiisELiELsEiiiiiiiiiLiE a0c2) ≤ 4194304; omega), eq_FlyS a0c3 (by show (List.length a0c3 + wl W_ibiiiiiLiEiiis a0c3) ≤ 4194304; omega), eq_ItemSS a0c4 (by show (List.length a0c4 + wl W_LiiisE a0c4) ≤ 4194304; omega), eq_ItemS a0c5 (by show (List.length a0c5 + wl W_iiis a0c5) ≤ 4194304; omega)]

end Go.TM
