/- Sizes, copies, sameness: what the laws' own helping functions answer. -/
import Derived.Test.YtmljblppihbkdaaBF2
set_option linter.unusedSimpArgs false
set_option linter.unusedVariables false
namespace Go.TM
open Go

def Z_i (x : Int × Unit) : Prop := (-9223372036854775808 ≤ x.1 ∧ x.1 < 9223372036854775808) ∧ True
theorem z_i {x : Int × Unit} (h : SzR T_i x) : Z_i x := ⟨sz_int (szCons.1 h).1, trivial⟩
def W_i (_ : Int × Unit) : Nat := 0

/-! laws.szIntS -/
theorem sz_IntS (a0 : List (Int × Unit)) {left : Int} (hz : List.length a0 ≤ 9223372036854775807 ∧ ∀ y ∈ a0, Z_i y) (h0 : 0 ≤ left) (h1 : left ≤ 1048576) : Left (laws_szIntS a0 left) (List.length a0 + wl W_i a0) left := by
  obtain ⟨hlen, hel⟩ := hz
  unfold laws_szIntS
  rw [wrap_id (by omega) (by omega)]
  by_cases hd : left - ((List.length a0 : Nat) : Int) < 0
  · rw [dec_true hd]
    exact ⟨-1, rfl, by omega, by omega⟩
  rw [dec_false hd]
  simp only [cond_false]
  have hw : wl W_i a0 = 0 := wl_zero _ (fun _ => rfl) _
  exact ⟨_, rfl, by omega, by intro; omega⟩

def Z_iLiE (x : Int × (List (Int × Unit)) × Unit) : Prop := (-9223372036854775808 ≤ x.1 ∧ x.1 < 9223372036854775808) ∧ (List.length x.2.1 ≤ 9223372036854775807 ∧ ∀ y ∈ x.2.1, Z_i y) ∧ True
theorem z_iLiE {x : Int × (List (Int × Unit)) × Unit} (h : SzR T_iLiE x) : Z_iLiE x := ⟨sz_int (szCons.1 h).1, ⟨sz_len (szCons.1 (szCons.1 h).2).1, fun y hy => z_i (sz_el (szCons.1 (szCons.1 h).2).1 y hy)⟩, trivial⟩
def W_iLiE (x : Int × (List (Int × Unit)) × Unit) : Nat := (List.length x.2.1 + wl W_i x.2.1)

/-! laws.szRing -/
theorem sz_Ring (a0c0 : Int) (a0c1 : List (Int × Unit)) {left : Int} (hz : Z_iLiE (a0c0, a0c1, ())) (h0 : 0 ≤ left) (h1 : left ≤ 1048576) : Left (laws_szRing a0c0 a0c1 left) (W_iLiE (a0c0, a0c1, ())) left := by
  have hz : (-9223372036854775808 ≤ a0c0 ∧ a0c0 < 9223372036854775808) ∧ (List.length a0c1 ≤ 9223372036854775807 ∧ ∀ y ∈ a0c1, Z_i y) ∧ True := hz
  show Left _ ((List.length a0c1 + wl W_i a0c1)) left
  obtain ⟨z0, z1, _⟩ := hz
  unfold laws_szRing
  obtain ⟨m1, e1, l1, w1⟩ := sz_IntS a0c1 (left := left) z1 (by omega) (by omega)
  rw [e1]
  simp only [Option.bind_some]
  by_cases hd1 : m1 < 0
  · rw [dec_true hd1]
    exact ⟨-1, rfl, by omega, by omega⟩
  rw [dec_false hd1]
  simp only [cond_false]
  have w1 := w1 (by omega)
  exact ⟨_, rfl, by omega, by intro; omega⟩

/-! laws.szRingS -/
theorem sz_RingS (a0 : List R_iLiE) {left : Int} (hz : List.length a0 ≤ 9223372036854775807 ∧ ∀ y ∈ a0, Z_iLiE y) (h0 : 0 ≤ left) (h1 : left ≤ 1048576) : Left (laws_szRingS a0 left) (List.length a0 + wl W_iLiE a0) left := by
  obtain ⟨hlen, hel⟩ := hz
  unfold laws_szRingS
  rw [wrap_id (by omega) (by omega)]
  by_cases hd : left - ((List.length a0 : Nat) : Int) < 0
  · rw [dec_true hd]
    exact ⟨-1, rfl, by omega, by omega⟩
  rw [dec_false hd]
  simp only [cond_false]
  obtain ⟨e, he, hq⟩ := loop_inv (round := laws_szRingS_r0) (x := (a0, left - ((List.length a0 : Nat) : Int), ((0 : Nat) : Int), ())) a0.length (fun k x => ∃ m : Int, x = (a0, m, ((k : Nat) : Int), ()) ∧ 0 ≤ m ∧ ((a0.length + wl W_iLiE (a0.take k) : Nat) : Int) + m ≤ left)
    (fun e => match e with
      | .inl y => 0 ≤ y.1 ∧ ((a0.length + wl W_iLiE a0 : Nat) : Int) + y.1 ≤ left
      | .inr y => y.1 = -1) (by
      rintro x ⟨m, rfl, g1, g2⟩
      refine ⟨.inl (m, ()), ?_, g1, by rw [List.take_length] at g2; exact g2⟩
      simp only [laws_szRingS_r0, laws_szRingS_c0, lt_nat_irr, cond_false]) (by
      rintro k x hk ⟨m, rfl, g1, g2⟩
      have hw := wl_take W_iLiE a0 hk
      have hz := hel _ (List.getElem_mem hk)
      obtain ⟨m', e', l', w'⟩ := sz_Ring ((a0[k]).1) ((a0[k]).2.1) (left := m) hz g1 (by omega)
      have w' : 0 ≤ m' → ((W_iLiE a0[k] : Nat) : Int) + m' ≤ m := w'
      simp only [laws_szRingS_r0, laws_szRingS_c0, lt_nat_true hk, zero_le_nat, cond_true, toNat_nat, List.getElem?_eq_getElem hk, Option.bind_some, e', succ_wrap (show k < 4611686018427387904 by omega)]
      by_cases hm : m' < 0
      · rw [dec_true hm]
        exact .inl ⟨.inr (-1, ()), rfl, rfl⟩
      · rw [dec_false hm]
        have w' := w' (by omega)
        exact .inr ⟨_, rfl, _, rfl, by omega, by omega⟩)
      ⟨_, rfl, by omega, by rw [List.take_zero, wl_nil]; omega⟩
  rw [show (0 : Int) = ((0 : Nat) : Int) from rfl, he]
  cases e with
  | inl y => exact ⟨y.1, rfl, by have := hq.1; omega, fun _ => hq.2⟩
  | inr y => exact ⟨y.1, rfl, by rw [show y.1 = -1 from hq]; omega, by rw [show y.1 = -1 from hq]; omega⟩

/-! laws.toIntS -/
theorem to_IntS (a0 : List (Int × Unit)) (h : List.length a0 + wl W_i a0 ≤ 4194304) : laws_toIntS a0 = some (a0, ()) := by
  have hl : loopV laws_toIntS_r0 (a0, List.replicate a0.length ((0 : Int), ()), (0 : Int), ()) = some (.inl (a0, ())) := by
    have := loop_run (round := laws_toIntS_r0) (e := .inl (a0, ())) a0.length (fun k => (a0, a0.take k ++ List.replicate (a0.length - k) ((0 : Int), ()), ((k : Nat) : Int), ())) (by
      simp only [laws_toIntS_r0, laws_toIntS_c0, lt_nat_irr, cond_false, List.take_length, Nat.sub_self, List.replicate_zero, List.append_nil]) (fun k hk => by
      have hb : k < (a0.take k ++ List.replicate (a0.length - k) (((0 : Int), ()) : Int × Unit)).length := by simp; omega
      simp only [laws_toIntS_r0, laws_toIntS_c0, lt_nat_true hk, zero_le_nat, cond_true, toNat_nat, List.getElem?_eq_getElem hk, List.getElem?_eq_getElem hb, Option.bind_some, blt_true hb, succ_wrap (show k < 4611686018427387904 by omega)]
      rw [← copy_set a0 _ hk])
    simpa using this
  unfold laws_toIntS
  simp only [decide_true, zero_le_nat, cond_true, toNat_nat, ble_true (show a0.length * 8 ≤ lim by unfold lim; omega), hl, outK_inl]

/-! laws.toRing -/
theorem to_Ring (a0c0 : Int) (a0c1 : List (Int × Unit)) (h : W_iLiE (a0c0, a0c1, ()) ≤ 4194304) : laws_toRing a0c0 a0c1 = some (a0c0, a0c1, ()) := by
  have h : (List.length a0c1 + wl W_i a0c1) ≤ 4194304 := h
  unfold laws_toRing
  simp only [Option.bind_some, to_IntS a0c1 (by show (List.length a0c1 + wl W_i a0c1) ≤ 4194304; omega)]

/-! laws.toRingS -/
theorem to_RingS (a0 : List R_iLiE) (h : List.length a0 + wl W_iLiE a0 ≤ 4194304) : laws_toRingS a0 = some (a0, ()) := by
  have hl : loopV laws_toRingS_r0 (a0, List.replicate a0.length ((0 : Int), [], ()), (0 : Int), ()) = some (.inl (a0, ())) := by
    have := loop_run (round := laws_toRingS_r0) (e := .inl (a0, ())) a0.length (fun k => (a0, a0.take k ++ List.replicate (a0.length - k) ((0 : Int), [], ()), ((k : Nat) : Int), ())) (by
      simp only [laws_toRingS_r0, laws_toRingS_c0, lt_nat_irr, cond_false, List.take_length, Nat.sub_self, List.replicate_zero, List.append_nil]) (fun k hk => by
      have hb : k < (a0.take k ++ List.replicate (a0.length - k) (((0 : Int), [], ()) : Int × (List (Int × Unit)) × Unit)).length := by simp; omega
      simp only [laws_toRingS_r0, laws_toRingS_c0, lt_nat_true hk, zero_le_nat, cond_true, toNat_nat, List.getElem?_eq_getElem hk, List.getElem?_eq_getElem hb, Option.bind_some, blt_true hb, succ_wrap (show k < 4611686018427387904 by omega), to_Ring ((a0[k]).1) ((a0[k]).2.1) (Nat.le_trans (wl_mem W_iLiE a0 _ (List.getElem_mem hk)) (by omega))]
      rw [← copy_set a0 _ hk])
    simpa using this
  unfold laws_toRingS
  simp only [decide_true, zero_le_nat, cond_true, toNat_nat, ble_true (show a0.length * 32 ≤ lim by unfold lim; omega), hl, outK_inl]

/-! laws.eqIntS -/
theorem eq_IntS (a0 : List (Int × Unit)) (h : List.length a0 + wl W_i a0 ≤ 4194304) : laws_eqIntS a0 a0 = some (true, ()) := by
  have hl : loopV laws_eqIntS_r0 (a0, a0, (0 : Int), ()) = some (.inl ()) := by
    have := loop_run (round := laws_eqIntS_r0) (e := .inl ()) a0.length (fun k => (a0, a0, ((k : Nat) : Int), ())) (by
      simp only [laws_eqIntS_r0, laws_eqIntS_c0, lt_nat_irr, cond_false]) (fun k hk => by
      simp only [laws_eqIntS_r0, laws_eqIntS_c0, lt_nat_true hk, zero_le_nat, cond_true, cond_false, toNat_nat, List.getElem?_eq_getElem hk, Option.bind_some, decide_true, beq_self_eq_true, strEq_self, Bool.not_true, succ_wrap (show k < 4611686018427387904 by omega)])
    simpa using this
  unfold laws_eqIntS
  simp only [decide_true, Bool.not_true, cond_false, hl, outK_inl]

/-! laws.eqRing -/
theorem eq_Ring (a0c0 : Int) (a0c1 : List (Int × Unit)) (h : W_iLiE (a0c0, a0c1, ()) ≤ 4194304) : laws_eqRing a0c0 a0c1 a0c0 a0c1 = some (true, ()) := by
  have h : (List.length a0c1 + wl W_i a0c1) ≤ 4194304 := h
  unfold laws_eqRing
  simp only [decide_true, beq_self_eq_true, Bool.not_true, Bool.not_false, cond_true, cond_false, strEq_self, Option.bind_some, eq_IntS a0c1 (by show (List.length a0c1 + wl W_i a0c1) ≤ 4194304; omega)]

/-! laws.eqRingS -/
theorem eq_RingS (a0 : List R_iLiE) (h : List.length a0 + wl W_iLiE a0 ≤ 4194304) : laws_eqRingS a0 a0 = some (true, ()) := by
  have hl : loopV laws_eqRingS_r0 (a0, a0, (0 : Int), ()) = some (.inl ()) := by
    have := loop_run (round := laws_eqRingS_r0) (e := .inl ()) a0.length (fun k => (a0, a0, ((k : Nat) : Int), ())) (by
      simp only [laws_eqRingS_r0, laws_eqRingS_c0, lt_nat_irr, cond_false]) (fun k hk => by
      simp only [laws_eqRingS_r0, laws_eqRingS_c0, lt_nat_true hk, zero_le_nat, cond_true, cond_false, toNat_nat, List.getElem?_eq_getElem hk, Option.bind_some, decide_true, beq_self_eq_true, strEq_self, Bool.not_true, succ_wrap (show k < 4611686018427387904 by omega), eq_Ring ((a0[k]).1) ((a0[k]).2.1) (Nat.le_trans (wl_mem W_iLiE a0 _ (List.getElem_mem hk)) (by omega))])
    simpa using this
  unfold laws_eqRingS
  simp only [decide_true, Bool.not_true, cond_false, hl, outK_inl]

def Z_iiis (x : Int × Int × Int × ByteArray × Unit) : Prop := (-9223372036854775808 ≤ x.1 ∧ x.1 < 9223372036854775808) ∧ (-9223372036854775808 ≤ x.2.1 ∧ x.2.1 < 9223372036854775808) ∧ (-9223372036854775808 ≤ x.2.2.1 ∧ x.2.2.1 < 9223372036854775808) ∧ (ByteArray.size x.2.2.2.1 ≤ 9223372036854775807) ∧ True
theorem z_iiis {x : Int × Int × Int × ByteArray × Unit} (h : SzR T_iiis x) : Z_iiis x := ⟨sz_int (szCons.1 h).1, sz_int (szCons.1 (szCons.1 h).2).1, sz_int (szCons.1 (szCons.1 (szCons.1 h).2).2).1, sz_str (szCons.1 (szCons.1 (szCons.1 (szCons.1 h).2).2).2).1, trivial⟩
def W_iiis (x : Int × Int × Int × ByteArray × Unit) : Nat := ByteArray.size x.2.2.2.1

/-! laws.eqItem -/
theorem eq_Item (a0c0 : Int) (a0c1 : Int) (a0c2 : Int) (a0c3 : ByteArray) (h : W_iiis (a0c0, a0c1, a0c2, a0c3, ()) ≤ 4194304) : laws_eqItem a0c0 a0c1 a0c2 a0c3 a0c0 a0c1 a0c2 a0c3 = some (true, ()) := by
  have h : ByteArray.size a0c3 ≤ 4194304 := h
  unfold laws_eqItem
  simp only [decide_true, beq_self_eq_true, Bool.not_true, Bool.not_false, cond_true, cond_false, strEq_self, Option.bind_some]

/-! laws.eqItemS -/
theorem eq_ItemS (a0 : List R_iiis) (h : List.length a0 + wl W_iiis a0 ≤ 4194304) : laws_eqItemS a0 a0 = some (true, ()) := by
  have hl : loopV laws_eqItemS_r0 (a0, a0, (0 : Int), ()) = some (.inl ()) := by
    have := loop_run (round := laws_eqItemS_r0) (e := .inl ()) a0.length (fun k => (a0, a0, ((k : Nat) : Int), ())) (by
      simp only [laws_eqItemS_r0, laws_eqItemS_c0, lt_nat_irr, cond_false]) (fun k hk => by
      simp only [laws_eqItemS_r0, laws_eqItemS_c0, lt_nat_true hk, zero_le_nat, cond_true, cond_false, toNat_nat, List.getElem?_eq_getElem hk, Option.bind_some, decide_true, beq_self_eq_true, strEq_self, Bool.not_true, succ_wrap (show k < 4611686018427387904 by omega), eq_Item ((a0[k]).1) ((a0[k]).2.1) ((a0[k]).2.2.1) ((a0[k]).2.2.2.1) (Nat.le_trans (wl_mem W_iiis a0 _ (List.getElem_mem hk)) (by omega))])
    simpa using this
  unfold laws_eqItemS
  simp only [decide_true, Bool.not_true, cond_false, hl, outK_inl]

def Z_s (x : ByteArray × Unit) : Prop := (ByteArray.size x.1 ≤ 9223372036854775807) ∧ True
theorem z_s {x : ByteArray × Unit} (h : SzR T_s x) : Z_s x := ⟨sz_str (szCons.1 h).1, trivial⟩
def W_s (x : ByteArray × Unit) : Nat := ByteArray.size x.1

/-! laws.eqStringS -/
theorem eq_StringS (a0 : List (ByteArray × Unit)) (h : List.length a0 + wl W_s a0 ≤ 4194304) : laws_eqStringS a0 a0 = some (true, ()) := by
  have hl : loopV laws_eqStringS_r0 (a0, a0, (0 : Int), ()) = some (.inl ()) := by
    have := loop_run (round := laws_eqStringS_r0) (e := .inl ()) a0.length (fun k => (a0, a0, ((k : Nat) : Int), ())) (by
      simp only [laws_eqStringS_r0, laws_eqStringS_c0, lt_nat_irr, cond_false]) (fun k hk => by
      simp only [laws_eqStringS_r0, laws_eqStringS_c0, lt_nat_true hk, zero_le_nat, cond_true, cond_false, toNat_nat, List.getElem?_eq_getElem hk, Option.bind_some, decide_true, beq_self_eq_true, strEq_self, Bool.not_true, succ_wrap (show k < 4611686018427387904 by omega)])
    simpa using this
  unfold laws_eqStringS
  simp only [decide_true, Bool.not_true, cond_false, hl, outK_inl]

def Z_iiiiiLiE (x : Int × Int × Int × Int × Int × (List (Int × Unit)) × Unit) : Prop := (-9223372036854775808 ≤ x.1 ∧ x.1 < 9223372036854775808) ∧ (-9223372036854775808 ≤ x.2.1 ∧ x.2.1 < 9223372036854775808) ∧ (-9223372036854775808 ≤ x.2.2.1 ∧ x.2.2.1 < 9223372036854775808) ∧ (-9223372036854775808 ≤ x.2.2.2.1 ∧ x.2.2.2.1 < 9223372036854775808) ∧ (-9223372036854775808 ≤ x.2.2.2.2.1 ∧ x.2.2.2.2.1 < 9223372036854775808) ∧ (List.length x.2.2.2.2.2.1 ≤ 9223372036854775807 ∧ ∀ y ∈ x.2.2.2.2.2.1, Z_i y) ∧ True
theorem z_iiiiiLiE {x : Int × Int × Int × Int × Int × (List (Int × Unit)) × Unit} (h : SzR T_iiiiiLiE x) : Z_iiiiiLiE x := ⟨sz_int (szCons.1 h).1, sz_int (szCons.1 (szCons.1 h).2).1, sz_int (szCons.1 (szCons.1 (szCons.1 h).2).2).1, sz_int (szCons.1 (szCons.1 (szCons.1 (szCons.1 h).2).2).2).1, sz_int (szCons.1 (szCons.1 (szCons.1 (szCons.1 (szCons.1 h).2).2).2).2).1, ⟨sz_len (szCons.1 (szCons.1 (szCons.1 (szCons.1 (szCons.1 (szCons.1 h).2).2).2).2).2).1, fun y hy => z_i (sz_el (szCons.1 (szCons.1 (szCons.1 (szCons.1 (szCons.1 (szCons.1 h).2).2).2).2).2).1 y hy)⟩, trivial⟩
def W_iiiiiLiE (x : Int × Int × Int × Int × Int × (List (Int × Unit)) × Unit) : Nat := (List.length x.2.2.2.2.2.1 + wl W_i x.2.2.2.2.2.1)

/-! laws.eqToken -/
theorem eq_Token (a0c0 : Int) (a0c1 : Int) (a0c2 : Int) (a0c3 : Int) (a0c4 : Int) (a0c5 : List (Int × Unit)) (h : W_iiiiiLiE (a0c0, a0c1, a0c2, a0c3, a0c4, a0c5, ()) ≤ 4194304) : laws_eqToken a0c0 a0c1 a0c2 a0c3 a0c4 a0c5 a0c0 a0c1 a0c2 a0c3 a0c4 a0c5 = some (true, ()) := by
  have h : (List.length a0c5 + wl W_i a0c5) ≤ 4194304 := h
  unfold laws_eqToken
  simp only [decide_true, beq_self_eq_true, Bool.not_true, Bool.not_false, cond_true, cond_false, strEq_self, Option.bind_some, eq_IntS a0c5 (by show (List.length a0c5 + wl W_i a0c5) ≤ 4194304; omega)]

def Z_iiLiELiiisELiELsEiiiiiiiiiLiE (x : Int × Int × (List (Int × Unit)) × (List R_iiis) × (List (Int × Unit)) × (List (ByteArray × Unit)) × Int × Int × Int × Int × Int × Int × Int × Int × Int × (List (Int × Unit)) × Unit) : Prop := (-9223372036854775808 ≤ x.1 ∧ x.1 < 9223372036854775808) ∧ (-9223372036854775808 ≤ x.2.1 ∧ x.2.1 < 9223372036854775808) ∧ (List.length x.2.2.1 ≤ 9223372036854775807 ∧ ∀ y ∈ x.2.2.1, Z_i y) ∧ (List.length x.2.2.2.1 ≤ 9223372036854775807 ∧ ∀ y ∈ x.2.2.2.1, Z_iiis y) ∧ (List.length x.2.2.2.2.1 ≤ 9223372036854775807 ∧ ∀ y ∈ x.2.2.2.2.1, Z_i y) ∧ (List.length x.2.2.2.2.2.1 ≤ 9223372036854775807 ∧ ∀ y ∈ x.2.2.2.2.2.1, Z_s y) ∧ (-9223372036854775808 ≤ x.2.2.2.2.2.2.1 ∧ x.2.2.2.2.2.2.1 < 9223372036854775808) ∧ (-9223372036854775808 ≤ x.2.2.2.2.2.2.2.1 ∧ x.2.2.2.2.2.2.2.1 < 9223372036854775808) ∧ (-9223372036854775808 ≤ x.2.2.2.2.2.2.2.2.1 ∧ x.2.2.2.2.2.2.2.2.1 < 9223372036854775808) ∧ (-9223372036854775808 ≤ x.2.2.2.2.2.2.2.2.2.1 ∧ x.2.2.2.2.2.2.2.2.2.1 < 9223372036854775808) ∧ (-9223372036854775808 ≤ x.2.2.2.2.2.2.2.2.2.2.1 ∧ x.2.2.2.2.2.2.2.2.2.2.1 < 9223372036854775808) ∧ (-9223372036854775808 ≤ x.2.2.2.2.2.2.2.2.2.2.2.1 ∧ x.2.2.2.2.2.2.2.2.2.2.2.1 < 9223372036854775808) ∧ (-9223372036854775808 ≤ x.2.2.2.2.2.2.2.2.2.2.2.2.1 ∧ x.2.2.2.2.2.2.2.2.2.2.2.2.1 < 9223372036854775808) ∧ (-9223372036854775808 ≤ x.2.2.2.2.2.2.2.2.2.2.2.2.2.1 ∧ x.2.2.2.2.2.2.2.2.2.2.2.2.2.1 < 9223372036854775808) ∧ (-9223372036854775808 ≤ x.2.2.2.2.2.2.2.2.2.2.2.2.2.2.1 ∧ x.2.2.2.2.2.2.2.2.2.2.2.2.2.2.1 < 9223372036854775808) ∧ (List.length x.2.2.2.2.2.2.2.2.2.2.2.2.2.2.2.1 ≤ 9223372036854775807 ∧ ∀ y ∈ x.2.2.2.2.2.2.2.2.2.2.2.2.2.2.2.1, Z_i y) ∧ True
theorem z_iiLiELiiisELiELsEiiiiiiiiiLiE {x : Int × Int × (List (Int × Unit)) × (List R_iiis) × (List (Int × Unit)) × (List (ByteArray × Unit)) × Int × Int × Int × Int × Int × Int × Int × Int × Int × (List (Int × Unit)) × Unit} (h : SzR T_iiLiELiiisELiELsEiiiiiiiiiLiE x) : Z_iiLiELiiisELiELsEiiiiiiiiiLiE x := ⟨sz_int (szCons.1 h).1, sz_int (szCons.1 (szCons.1 h).2).1, ⟨sz_len (szCons.1 (szCons.1 (szCons.1 h).2).2).1, fun y hy => z_i (sz_el (szCons.1 (szCons.1 (szCons.1 h).2).2).1 y hy)⟩, ⟨sz_len (szCons.1 (szCons.1 (szCons.1 (szCons.1 h).2).2).2).1, fun y hy => z_iiis (sz_el (szCons.1 (szCons.1 (szCons.1 (szCons.1 h).2).2).2).1 y hy)⟩, ⟨sz_len (szCons.1 (szCons.1 (szCons.1 (szCons.1 (szCons.1 h).2).2).2).2).1, fun y hy => z_i (sz_el (szCons.1 (szCons.1 (szCons.1 (szCons.1 (szCons.1 h).2).2).2).2).1 y hy)⟩, ⟨sz_len (szCons.1 (szCons.1 (szCons.1 (szCons.1 (szCons.1 (szCons.1 h).2).2).2).2).2).1, fun y hy => z_s (sz_el (szCons.1 (szCons.1 (szCons.1 (szCons.1 (szCons.1 (szCons.1 h).2).2).2).2).2).1 y hy)⟩, sz_int (szCons.1 (szCons.1 (szCons.1 (szCons.1 (szCons.1 (szCons.1 (szCons.1 h).2).2).2).2).2).2).1, sz_int (szCons.1 (szCons.1 (szCons.1 (szCons.1 (szCons.1 (szCons.1 (szCons.1 (szCons.1 h).2).2).2).2).2).2).2).1, sz_int (szCons.1 (szCons.1 (szCons.1 (szCons.1 (szCons.1 (szCons.1 (szCons.1 (szCons.1 (szCons.1 h).2).2).2).2).2).2).2).2).1, sz_int (szCons.1 (szCons.1 (szCons.1 (szCons.1 (szCons.1 (szCons.1 (szCons.1 (szCons.1 (szCons.1 (szCons.1 h).2).2).2).2).2).2).2).2).2).1, sz_int (szCons.1 (szCons.1 (szCons.1 (szCons.1 (szCons.1 (szCons.1 (szCons.1 (szCons.1 (szCons.1 (szCons.1 (szCons.1 h).2).2).2).2).2).2).2).2).2).2).1, sz_int (szCons.1 (szCons.1 (szCons.1 (szCons.1 (szCons.1 (szCons.1 (szCons.1 (szCons.1 (szCons.1 (szCons.1 (szCons.1 (szCons.1 h).2).2).2).2).2).2).2).2).2).2).2).1, sz_int (szCons.1 (szCons.1 (szCons.1 (szCons.1 (szCons.1 (szCons.1 (szCons.1 (szCons.1 (szCons.1 (szCons.1 (szCons.1 (szCons.1 (szCons.1 h).2).2).2).2).2).2).2).2).2).2).2).2).1, sz_int (szCons.1 (szCons.1 (szCons.1 (szCons.1 (szCons.1 (szCons.1 (szCons.1 (szCons.1 (szCons.1 (szCons.1 (szCons.1 (szCons.1 (szCons.1 (szCons.1 h).2).2).2).2).2).2).2).2).2).2).2).2).2).1, sz_int (szCons.1 (szCons.1 (szCons.1 (szCons.1 (szCons.1 (szCons.1 (szCons.1 (szCons.1 (szCons.1 (szCons.1 (szCons.1 (szCons.1 (szCons.1 (szCons.1 (szCons.1 h).2).2).2).2).2).2).2).2).2).2).2).2).2).2).1, ⟨sz_len (szCons.1 (szCons.1 (szCons.1 (szCons.1 (szCons.1 (szCons.1 (szCons.1 (szCons.1 (szCons.1 (szCons.1 (szCons.1 (szCons.1 (szCons.1 (szCons.1 (szCons.1 (szCons.1 h).2).2).2).2).2).2).2).2).2).2).2).2).2).2).2).1, fun y hy => z_i (sz_el (szCons.1 (szCons.1 (szCons.1 (szCons.1 (szCons.1 (szCons.1 (szCons.1 (szCons.1 (szCons.1 (szCons.1 (szCons.1 (szCons.1 (szCons.1 (szCons.1 (szCons.1 (szCons.1 h).2).2).2).2).2).2).2).2).2).2).2).2).2).2).2).1 y hy)⟩, trivial⟩
def W_iiLiELiiisELiELsEiiiiiiiiiLiE (x : Int × Int × (List (Int × Unit)) × (List R_iiis) × (List (Int × Unit)) × (List (ByteArray × Unit)) × Int × Int × Int × Int × Int × Int × Int × Int × Int × (List (Int × Unit)) × Unit) : Nat := (List.length x.2.2.1 + wl W_i x.2.2.1) + (List.length x.2.2.2.1 + wl W_iiis x.2.2.2.1) + (List.length x.2.2.2.2.1 + wl W_i x.2.2.2.2.1) + (List.length x.2.2.2.2.2.1 + wl W_s x.2.2.2.2.2.1) + (List.length x.2.2.2.2.2.2.2.2.2.2.2.2.2.2.2.1 + wl W_i x.2.2.2.2.2.2.2.2.2.2.2.2.2.2.2.1)

/-! laws.eqMate -/
theorem eq_Mate (a0c0 : Int) (a0c1 : Int) (a0c2 : List (Int × Unit)) (a0c3 : List R_iiis) (a0c4 : List (Int × Unit)) (a0c5 : List (ByteArray × Unit)) (a0c6 : Int) (a0c7 : Int) (a0c8 : Int) (a0c9 : Int) (a0c10 : Int) (a0c11 : Int) (a0c12 : Int) (a0c13 : Int) (a0c14 : Int) (a0c15 : List (Int × Unit)) (h : W_iiLiELiiisELiELsEiiiiiiiiiLiE (a0c0, a0c1, a0c2, a0c3, a0c4, a0c5, a0c6, a0c7, a0c8, a0c9, a0c10, a0c11, a0c12, a0c13, a0c14, a0c15, ()) ≤ 4194304) : laws_eqMate a0c0 a0c1 a0c2 a0c3 a0c4 a0c5 a0c6 a0c7 a0c8 a0c9 a0c10 a0c11 a0c12 a0c13 a0c14 a0c15 a0c0 a0c1 a0c2 a0c3 a0c4 a0c5 a0c6 a0c7 a0c8 a0c9 a0c10 a0c11 a0c12 a0c13 a0c14 a0c15 = some (true, ()) := by
  have h : (List.length a0c2 + wl W_i a0c2) + (List.length a0c3 + wl W_iiis a0c3) + (List.length a0c4 + wl W_i a0c4) + (List.length a0c5 + wl W_s a0c5) + (List.length a0c15 + wl W_i a0c15) ≤ 4194304 := h
  unfold laws_eqMate
  simp only [decide_true, beq_self_eq_true, Bool.not_true, Bool.not_false, cond_true, cond_false, strEq_self, Option.bind_some, eq_Ring a0c1 a0c2 (by show (List.length a0c2 + wl W_i a0c2) ≤ 4194304; omega), eq_ItemS a0c3 (by show (List.length a0c3 + wl W_iiis a0c3) ≤ 4194304; omega), eq_IntS a0c4 (by show (List.length a0c4 + wl W_i a0c4) ≤ 4194304; omega), eq_StringS a0c5 (by show (List.length a0c5 + wl W_s a0c5) ≤ 4194304; omega), eq_Token a0c10 a0c11 a0c12 a0c13 a0c14 a0c15 (by show (List.length a0c15 + wl W_i a0c15) ≤ 4194304; omega)]

def Z_iiiLiiisE (x : Int × Int × Int × (List R_iiis) × Unit) : Prop := (-9223372036854775808 ≤ x.1 ∧ x.1 < 9223372036854775808) ∧ (-9223372036854775808 ≤ x.2.1 ∧ x.2.1 < 9223372036854775808) ∧ (-9223372036854775808 ≤ x.2.2.1 ∧ x.2.2.1 < 9223372036854775808) ∧ (List.length x.2.2.2.1 ≤ 9223372036854775807 ∧ ∀ y ∈ x.2.2.2.1, Z_iiis y) ∧ True
theorem z_iiiLiiisE {x : Int × Int × Int × (List R_iiis) × Unit} (h : SzR T_iiiLiiisE x) : Z_iiiLiiisE x := ⟨sz_int (szCons.1 h).1, sz_int (szCons.1 (szCons.1 h).2).1, sz_int (szCons.1 (szCons.1 (szCons.1 h).2).2).1, ⟨sz_len (szCons.1 (szCons.1 (szCons.1 (szCons.1 h).2).2).2).1, fun y hy => z_iiis (sz_el (szCons.1 (szCons.1 (szCons.1 (szCons.1 h).2).2).2).1 y hy)⟩, trivial⟩
def W_iiiLiiisE (x : Int × Int × Int × (List R_iiis) × Unit) : Nat := (List.length x.2.2.2.1 + wl W_iiis x.2.2.2.1)

/-! laws.eqBundle -/
theorem eq_Bundle (a0c0 : Int) (a0c1 : Int) (a0c2 : Int) (a0c3 : List R_iiis) (h : W_iiiLiiisE (a0c0, a0c1, a0c2, a0c3, ()) ≤ 4194304) : laws_eqBundle a0c0 a0c1 a0c2 a0c3 a0c0 a0c1 a0c2 a0c3 = some (true, ()) := by
  have h : (List.length a0c3 + wl W_iiis a0c3) ≤ 4194304 := h
  unfold laws_eqBundle
  simp only [decide_true, beq_self_eq_true, Bool.not_true, Bool.not_false, cond_true, cond_false, strEq_self, Option.bind_some, eq_ItemS a0c3 (by show (List.length a0c3 + wl W_iiis a0c3) ≤ 4194304; omega)]

/-! laws.eqBundleS -/
theorem eq_BundleS (a0 : List R_iiiLiiisE) (h : List.length a0 + wl W_iiiLiiisE a0 ≤ 4194304) : laws_eqBundleS a0 a0 = some (true, ()) := by
  have hl : loopV laws_eqBundleS_r0 (a0, a0, (0 : Int), ()) = some (.inl ()) := by
    have := loop_run (round := laws_eqBundleS_r0) (e := .inl ()) a0.length (fun k => (a0, a0, ((k : Nat) : Int), ())) (by
      simp only [laws_eqBundleS_r0, laws_eqBundleS_c0, lt_nat_irr, cond_false]) (fun k hk => by
      simp only [laws_eqBundleS_r0, laws_eqBundleS_c0, lt_nat_true hk, zero_le_nat, cond_true, cond_false, toNat_nat, List.getElem?_eq_getElem hk, Option.bind_some, decide_true, beq_self_eq_true, strEq_self, Bool.not_true, succ_wrap (show k < 4611686018427387904 by omega), eq_Bundle ((a0[k]).1) ((a0[k]).2.1) ((a0[k]).2.2.1) ((a0[k]).2.2.2.1) (Nat.le_trans (wl_mem W_iiiLiiisE a0 _ (List.getElem_mem hk)) (by omega))])
    simpa using this
  unfold laws_eqBundleS
  simp only [decide_true, Bool.not_true, cond_false, hl, outK_inl]

def Z_iiLiEiiisLiE (x : Int × Int × (List (Int × Unit)) × Int × Int × Int × ByteArray × (List (Int × Unit)) × Unit) : Prop := (-9223372036854775808 ≤ x.1 ∧ x.1 < 9223372036854775808) ∧ (-9223372036854775808 ≤ x.2.1 ∧ x.2.1 < 9223372036854775808) ∧ (List.length x.2.2.1 ≤ 9223372036854775807 ∧ ∀ y ∈ x.2.2.1, Z_i y) ∧ (-9223372036854775808 ≤ x.2.2.2.1 ∧ x.2.2.2.1 < 9223372036854775808) ∧ (-9223372036854775808 ≤ x.2.2.2.2.1 ∧ x.2.2.2.2.1 < 9223372036854775808) ∧ (-9223372036854775808 ≤ x.2.2.2.2.2.1 ∧ x.2.2.2.2.2.1 < 9223372036854775808) ∧ (ByteArray.size x.2.2.2.2.2.2.1 ≤ 9223372036854775807) ∧ (List.length x.2.2.2.2.2.2.2.1 ≤ 9223372036854775807 ∧ ∀ y ∈ x.2.2.2.2.2.2.2.1, Z_i y) ∧ True
theorem z_iiLiEiiisLiE {x : Int × Int × (List (Int × Unit)) × Int × Int × Int × ByteArray × (List (Int × Unit)) × Unit} (h : SzR T_iiLiEiiisLiE x) : Z_iiLiEiiisLiE x := ⟨sz_int (szCons.1 h).1, sz_int (szCons.1 (szCons.1 h).2).1, ⟨sz_len (szCons.1 (szCons.1 (szCons.1 h).2).2).1, fun y hy => z_i (sz_el (szCons.1 (szCons.1 (szCons.1 h).2).2).1 y hy)⟩, sz_int (szCons.1 (szCons.1 (szCons.1 (szCons.1 h).2).2).2).1, sz_int (szCons.1 (szCons.1 (szCons.1 (szCons.1 (szCons.1 h).2).2).2).2).1, sz_int (szCons.1 (szCons.1 (szCons.1 (szCons.1 (szCons.1 (szCons.1 h).2).2).2).2).2).1, sz_str (szCons.1 (szCons.1 (szCons.1 (szCons.1 (szCons.1 (szCons.1 (szCons.1 h).2).2).2).2).2).2).1, ⟨sz_len (szCons.1 (szCons.1 (szCons.1 (szCons.1 (szCons.1 (szCons.1 (szCons.1 (szCons.1 h).2).2).2).2).2).2).2).1, fun y hy => z_i (sz_el (szCons.1 (szCons.1 (szCons.1 (szCons.1 (szCons.1 (szCons.1 (szCons.1 (szCons.1 h).2).2).2).2).2).2).2).1 y hy)⟩, trivial⟩
def W_iiLiEiiisLiE (x : Int × Int × (List (Int × Unit)) × Int × Int × Int × ByteArray × (List (Int × Unit)) × Unit) : Nat := (List.length x.2.2.1 + wl W_i x.2.2.1) + ByteArray.size x.2.2.2.2.2.2.1 + (List.length x.2.2.2.2.2.2.2.1 + wl W_i x.2.2.2.2.2.2.2.1)

/-! laws.eqEvent -/
theorem eq_Event (a0c0 : Int) (a0c1 : Int) (a0c2 : List (Int × Unit)) (a0c3 : Int) (a0c4 : Int) (a0c5 : Int) (a0c6 : ByteArray) (a0c7 : List (Int × Unit)) (h : W_iiLiEiiisLiE (a0c0, a0c1, a0c2, a0c3, a0c4, a0c5, a0c6, a0c7, ()) ≤ 4194304) : laws_eqEvent a0c0 a0c1 a0c2 a0c3 a0c4 a0c5 a0c6 a0c7 a0c0 a0c1 a0c2 a0c3 a0c4 a0c5 a0c6 a0c7 = some (true, ()) := by
  have h : (List.length a0c2 + wl W_i a0c2) + ByteArray.size a0c6 + (List.length a0c7 + wl W_i a0c7) ≤ 4194304 := h
  unfold laws_eqEvent
  simp only [decide_true, beq_self_eq_true, Bool.not_true, Bool.not_false, cond_true, cond_false, strEq_self, Option.bind_some, eq_Ring a0c1 a0c2 (by show (List.length a0c2 + wl W_i a0c2) ≤ 4194304; omega), eq_Item a0c3 a0c4 a0c5 a0c6 (by show ByteArray.size a0c6 ≤ 4194304; omega), eq_IntS a0c7 (by show (List.length a0c7 + wl W_i a0c7) ≤ 4194304; omega)]

/-! laws.eqEventS -/
theorem eq_EventS (a0 : List R_iiLiEiiisLiE) (h : List.length a0 + wl W_iiLiEiiisLiE a0 ≤ 4194304) : laws_eqEventS a0 a0 = some (true, ()) := by
  have hl : loopV laws_eqEventS_r0 (a0, a0, (0 : Int), ()) = some (.inl ()) := by
    have := loop_run (round := laws_eqEventS_r0) (e := .inl ()) a0.length (fun k => (a0, a0, ((k : Nat) : Int), ())) (by
      simp only [laws_eqEventS_r0, laws_eqEventS_c0, lt_nat_irr, cond_false]) (fun k hk => by
      simp only [laws_eqEventS_r0, laws_eqEventS_c0, lt_nat_true hk, zero_le_nat, cond_true, cond_false, toNat_nat, List.getElem?_eq_getElem hk, Option.bind_some, decide_true, beq_self_eq_true, strEq_self, Bool.not_true, succ_wrap (show k < 4611686018427387904 by omega), eq_Event ((a0[k]).1) ((a0[k]).2.1) ((a0[k]).2.2.1) ((a0[k]).2.2.2.1) ((a0[k]).2.2.2.2.1) ((a0[k]).2.2.2.2.2.1) ((a0[k]).2.2.2.2.2.2.1) ((a0[k]).2.2.2.2.2.2.2.1) (Nat.le_trans (wl_mem W_iiLiEiiisLiE a0 _ (List.getElem_mem hk)) (by omega))])
    simpa using this
  unfold laws_eqEventS
  simp only [decide_true, Bool.not_true, cond_false, hl, outK_inl]

def Z_ibiiLiELiiisELiELsEiiiiiiiiiLiEiiiLiELiiiLiiisEELiiLiEiiisLiEE (x : Int × Bool × Int × Int × (List (Int × Unit)) × (List R_iiis) × (List (Int × Unit)) × (List (ByteArray × Unit)) × Int × Int × Int × Int × Int × Int × Int × Int × Int × (List (Int × Unit)) × Int × Int × Int × (List (Int × Unit)) × (List R_iiiLiiisE) × (List R_iiLiEiiisLiE) × Unit) : Prop := (-9223372036854775808 ≤ x.1 ∧ x.1 < 9223372036854775808) ∧ (True) ∧ (-9223372036854775808 ≤ x.2.2.1 ∧ x.2.2.1 < 9223372036854775808) ∧ (-9223372036854775808 ≤ x.2.2.2.1 ∧ x.2.2.2.1 < 9223372036854775808) ∧ (List.length x.2.2.2.2.1 ≤ 9223372036854775807 ∧ ∀ y ∈ x.2.2.2.2.1, Z_i y) ∧ (List.length x.2.2.2.2.2.1 ≤ 9223372036854775807 ∧ ∀ y ∈ x.2.2.2.2.2.1, Z_iiis y) ∧ (List.length x.2.2.2.2.2.2.1 ≤ 9223372036854775807 ∧ ∀ y ∈ x.2.2.2.2.2.2.1, Z_i y) ∧ (List.length x.2.2.2.2.2.2.2.1 ≤ 9223372036854775807 ∧ ∀ y ∈ x.2.2.2.2.2.2.2.1, Z_s y) ∧ (-9223372036854775808 ≤ x.2.2.2.2.2.2.2.2.1 ∧ x.2.2.2.2.2.2.2.2.1 < 9223372036854775808) ∧ (-9223372036854775808 ≤ x.2.2.2.2.2.2.2.2.2.1 ∧ x.2.2.2.2.2.2.2.2.2.1 < 9223372036854775808) ∧ (-9223372036854775808 ≤ x.2.2.2.2.2.2.2.2.2.2.1 ∧ x.2.2.2.2.2.2.2.2.2.2.1 < 9223372036854775808) ∧ (-9223372036854775808 ≤ x.2.2.2.2.2.2.2.2.2.2.2.1 ∧ x.2.2.2.2.2.2.2.2.2.2.2.1 < 9223372036854775808) ∧ (-9223372036854775808 ≤ x.2.2.2.2.2.2.2.2.2.2.2.2.1 ∧ x.2.2.2.2.2.2.2.2.2.2.2.2.1 < 9223372036854775808) ∧ (-9223372036854775808 ≤ x.2.2.2.2.2.2.2.2.2.2.2.2.2.1 ∧ x.2.2.2.2.2.2.2.2.2.2.2.2.2.1 < 9223372036854775808) ∧ (-9223372036854775808 ≤ x.2.2.2.2.2.2.2.2.2.2.2.2.2.2.1 ∧ x.2.2.2.2.2.2.2.2.2.2.2.2.2.2.1 < 9223372036854775808) ∧ (-9223372036854775808 ≤ x.2.2.2.2.2.2.2.2.2.2.2.2.2.2.2.1 ∧ x.2.2.2.2.2.2.2.2.2.2.2.2.2.2.2.1 < 9223372036854775808) ∧ (-9223372036854775808 ≤ x.2.2.2.2.2.2.2.2.2.2.2.2.2.2.2.2.1 ∧ x.2.2.2.2.2.2.2.2.2.2.2.2.2.2.2.2.1 < 9223372036854775808) ∧ (List.length x.2.2.2.2.2.2.2.2.2.2.2.2.2.2.2.2.2.1 ≤ 9223372036854775807 ∧ ∀ y ∈ x.2.2.2.2.2.2.2.2.2.2.2.2.2.2.2.2.2.1, Z_i y) ∧ (-9223372036854775808 ≤ x.2.2.2.2.2.2.2.2.2.2.2.2.2.2.2.2.2.2.1 ∧ x.2.2.2.2.2.2.2.2.2.2.2.2.2.2.2.2.2.2.1 < 9223372036854775808) ∧ (-9223372036854775808 ≤ x.2.2.2.2.2.2.2.2.2.2.2.2.2.2.2.2.2.2.2.1 ∧ x.2.2.2.2.2.2.2.2.2.2.2.2.2.2.2.2.2.2.2.1 < 9223372036854775808) ∧ (-9223372036854775808 ≤ x.2.2.2.2.2.2.2.2.2.2.2.2.2.2.2.2.2.2.2.2.1 ∧ x.2.2.2.2.2.2.2.2.2.2.2.2.2.2.2.2.2.2.2.2.1 < 9223372036854775808) ∧ (List.length x.2.2.2.2.2.2.2.2.2.2.2.2.2.2.2.2.2.2.2.2.2.1 ≤ 9223372036854775807 ∧ ∀ y ∈ x.2.2.2.2.2.2.2.2.2.2.2.2.2.2.2.2.2.2.2.2.2.1, Z_i y) ∧ (List.length x.2.2.2.2.2.2.2.2.2.2.2.2.2.2.2.2.2.2.2.2.2.2.1 ≤ 9223372036854775807 ∧ ∀ y ∈ x.2.2.2.2.2.2.2.2.2.2.2.2.2.2.2.2.2.2.2.2.2.2.1, Z_iiiLiiisE y) ∧ (List.length x.2.2.2.2.2.2.2.2.2.2.2.2.2.2.2.2.2.2.2.2.2.2.2.1 ≤ 9223372036854775807 ∧ ∀ y ∈ x.2.2.2.2.2.2.2.2.2.2.2.2.2.2.2.2.2.2.2.2.2.2.2.1, Z_iiLiEiiisLiE y) ∧ True
theorem z_ibiiLiELiiisELiELsEiiiiiiiiiLiEiiiLiELiiiLiiisEELiiLiEiiisLiEE {x : Int × Bool × Int × Int × (List (Int × Unit)) × (List R_iiis) × (List (Int × Unit)) × (List (ByteArray × Unit)) × Int × Int × Int × Int × Int × Int × Int × Int × Int × (List (Int × Unit)) × Int × Int × Int × (List (Int × Unit)) × (List R_iiiLiiisE) × (List R_iiLiEiiisLiE) × Unit} (h : SzR T_ibiiLiELiiisELiELsEiiiiiiiiiLiEiiiLiELiiiLiiisEELiiLiEiiisLiEE x) : Z_ibiiLiELiiisELiELsEiiiiiiiiiLiEiiiLiELiiiLiiisEELiiLiEiiisLiEE x := ⟨sz_int (szCons.1 h).1, trivial, sz_int (szCons.1 (szCons.1 (szCons.1 h).2).2).1, sz_int (szCons.1 (szCons.1 (szCons.1 (szCons.1 h).2).2).2).1, ⟨sz_len (szCons.1 (szCons.1 (szCons.1 (szCons.1 (szCons.1 h).2).2).2).2).1, fun y hy => z_i (sz_el (szCons.1 (szCons.1 (szCons.1 (szCons.1 (szCons.1 h).2).2).2).2).1 y hy)⟩, ⟨sz_len (szCons.1 (szCons.1 (szCons.1 (szCons.1 (szCons.1 (szCons.1 h).2).2).2).2).2).1, fun y hy => z_iiis (sz_el (szCons.1 (szCons.1 (szCons.1 (szCons.1 (szCons.1 (szCons.1 h).2).2).2).2).2).1 y hy)⟩, ⟨sz_len (szCons.1 (szCons.1 (szCons.1 (szCons.1 (szCons.1 (szCons.1 (szCons.1 h).2).2).2).2).2).2).1, fun y hy => z_i (sz_el (szCons.1 (szCons.1 (szCons.1 (szCons.1 (szCons.1 (szCons.1 (szCons.1 h).2).2).2).2).2).2).1 y hy)⟩, ⟨sz_len (szCons.1 (szCons.1 (szCons.1 (szCons.1 (szCons.1 (szCons.1 (szCons.1 (szCons.1 h).2).2).2).2).2).2).2).1, fun y hy => z_s (sz_el (szCons.1 (szCons.1 (szCons.1 (szCons.1 (szCons.1 (szCons.1 (szCons.1 (szCons.1 h).2).2).2).2).2).2).2).1 y hy)⟩, sz_int (szCons.1 (szCons.1 (szCons.1 (szCons.1 (szCons.1 (szCons.1 (szCons.1 (szCons.1 (szCons.1 h).2).2).2).2).2).2).2).2).1, sz_int (szCons.1 (szCons.1 (szCons.1 (szCons.1 (szCons.1 (szCons.1 (szCons.1 (szCons.1 (szCons.1 (szCons.1 h).2).2).2).2).2).2).2).2).2).1, sz_int (szCons.1 (szCons.1 (szCons.1 (szCons.1 (szCons.1 (szCons.1 (szCons.1 (szCons.1 (szCons.1 (szCons.1 (szCons.1 h).2).2).2).2).2).2).2).2).2).2).1, sz_int (szCons.1 (szCons.1 (szCons.1 (szCons.1 (szCons.1 (szCons.1 (szCons.1 (szCons.1 (szCons.1 (szCons.1 (szCons.1 (szCons.1 h).2).2).2).2).2).2).2).2).2).2).2).1, sz_int (szCons.1 (szCons.1 (szCons.1 (szCons.1 (szCons.1 (szCons.1 (szCons.1 (szCons.1 (szCons.1 (szCons.1 (szCons.1 (szCons.1 (szCons.1 h).2).2).2).2).2).2).2).2).2).2).2).2).1, sz_int (szCons.1 (szCons.1 (szCons.1 (szCons.1 (szCons.1 (szCons.1 (szCons.1 (szCons.1 (szCons.1 (szCons.1 (szCons.1 (szCons.1 (szCons.1 (szCons.1 h).2).2).2).2).2).2).2).2).2).2).2).2).2).1, sz_int (szCons.1 (szCons.1 (szCons.1 (szCons.1 (szCons.1 (szCons.1 (szCons.1 (szCons.1 (szCons.1 (szCons.1 (szCons.1 (szCons.1 (szCons.1 (szCons.1 (szCons.1 h).2).2).2).2).2).2).2).2).2).2).2).2).2).2).1, sz_int (szCons.1 (szCons.1 (szCons.1 (szCons.1 (szCons.1 (szCons.1 (szCons.1 (szCons.1 (szCons.1 (szCons.1 (szCons.1 (szCons.1 (szCons.1 (szCons.1 (szCons.1 (szCons.1 h).2).2).2).2).2).2).2).2).2).2).2).2).2).2).2).1, sz_int (szCons.1 (szCons.1 (szCons.1 (szCons.1 (szCons.1 (szCons.1 (szCons.1 (szCons.1 (szCons.1 (szCons.1 (szCons.1 (szCons.1 (szCons.1 (szCons.1 (szCons.1 (szCons.1 (szCons.1 h).2).2).2).2).2).2).2).2).2).2).2).2).2).2).2).2).1, ⟨sz_len (szCons.1 (szCons.1 (szCons.1 (szCons.1 (szCons.1 (szCons.1 (szCons.1 (szCons.1 (szCons.1 (szCons.1 (szCons.1 (szCons.1 (szCons.1 (szCons.1 (szCons.1 (szCons.1 (szCons.1 (szCons.1 h).2).2).2).2).2).2).2).2).2).2).2).2).2).2).2).2).2).1, fun y hy => z_i (sz_el (szCons.1 (szCons.1 (szCons.1 (szCons.1 (szCons.1 (szCons.1 (szCons.1 (szCons.1 (szCons.1 (szCons.1 (szCons.1 (szCons.1 (szCons.1 (szCons.1 (szCons.1 (szCons.1 (szCons.1 (szCons.1 h).2).2).2).2).2).2).2).2).2).2).2).2).2).2).2).2).2).1 y hy)⟩, sz_int (szCons.1 (szCons.1 (szCons.1 (szCons.1 (szCons.1 (szCons.1 (szCons.1 (szCons.1 (szCons.1 (szCons.1 (szCons.1 (szCons.1 (szCons.1 (szCons.1 (szCons.1 (szCons.1 (szCons.1 (szCons.1 (szCons.1 h).2).2).2).2).2).2).2).2).2).2).2).2).2).2).2).2).2).2).1, sz_int (szCons.1 (szCons.1 (szCons.1 (szCons.1 (szCons.1 (szCons.1 (szCons.1 (szCons.1 (szCons.1 (szCons.1 (szCons.1 (szCons.1 (szCons.1 (szCons.1 (szCons.1 (szCons.1 (szCons.1 (szCons.1 (szCons.1 (szCons.1 h).2).2).2).2).2).2).2).2).2).2).2).2).2).2).2).2).2).2).2).1, sz_int (szCons.1 (szCons.1 (szCons.1 (szCons.1 (szCons.1 (szCons.1 (szCons.1 (szCons.1 (szCons.1 (szCons.1 (szCons.1 (szCons.1 (szCons.1 (szCons.1 (szCons.1 (szCons.1 (szCons.1 (szCons.1 (szCons.1 (szCons.1 (szCons.1 h).2).2).2).2).2).2).2).2).2).2).2).2).2).2).2).2).2).2).2).2).1, ⟨sz_len (szCons.1 (szCons.1 (szCons.1 (szCons.1 (szCons.1 (szCons.1 (szCons.1 (szCons.1 (szCons.1 (szCons.1 (szCons.1 (szCons.1 (szCons.1 (szCons.1 (szCons.1 (szCons.1 (szCons.1 (szCons.1 (szCons.1 (szCons.1 (szCons.1 (szCons.1 h).2).2).2).2).2).2).2).2).2).2).2).2).2).2).2).2).2).2).2).2).2).1, fun y hy => z_i (sz_el (szCons.1 (szCons.1 (szCons.1 (szCons.1 (szCons.1 (szCons.1 (szCons.1 (szCons.1 (szCons.1 (szCons.1 (szCons.1 (szCons.1 (szCons.1 (szCons.1 (szCons.1 (szCons.1 (szCons.1 (szCons.1 (szCons.1 (szCons.1 (szCons.1 (szCons.1 h).2).2).2).2).2).2).2).2).2).2).2).2).2).2).2).2).2).2).2).2).2).1 y hy)⟩, ⟨sz_len (szCons.1 (szCons.1 (szCons.1 (szCons.1 (szCons.1 (szCons.1 (szCons.1 (szCons.1 (szCons.1 (szCons.1 (szCons.1 (szCons.1 (szCons.1 (szCons.1 (szCons.1 (szCons.1 (szCons.1 (szCons.1 (szCons.1 (szCons.1 (szCons.1 (szCons.1 (szCons.1 h).2).2).2).2).2).2).2).2).2).2).2).2).2).2).2).2).2).2).2).2).2).2).1, fun y hy => z_iiiLiiisE (sz_el (szCons.1 (szCons.1 (szCons.1 (szCons.1 (szCons.1 (szCons.1 (szCons.1 (szCons.1 (szCons.1 (szCons.1 (szCons.1 (szCons.1 (szCons.1 (szCons.1 (szCons.1 (szCons.1 (szCons.1 (szCons.1 (szCons.1 (szCons.1 (szCons.1 (szCons.1 (szCons.1 h).2).2).2).2).2).2).2).2).2).2).2).2).2).2).2).2).2).2).2).2).2).2).1 y hy)⟩, ⟨sz_len (szCons.1 (szCons.1 (szCons.1 (szCons.1 (szCons.1 (szCons.1 (szCons.1 (szCons.1 (szCons.1 (szCons.1 (szCons.1 (szCons.1 (szCons.1 (szCons.1 (szCons.1 (szCons.1 (szCons.1 (szCons.1 (szCons.1 (szCons.1 (szCons.1 (szCons.1 (szCons.1 (szCons.1 h).2).2).2).2).2).2).2).2).2).2).2).2).2).2).2).2).2).2).2).2).2).2).2).1, fun y hy => z_iiLiEiiisLiE (sz_el (szCons.1 (szCons.1 (szCons.1 (szCons.1 (szCons.1 (szCons.1 (szCons.1 (szCons.1 (szCons.1 (szCons.1 (szCons.1 (szCons.1 (szCons.1 (szCons.1 (szCons.1 (szCons.1 (szCons.1 (szCons.1 (szCons.1 (szCons.1 (szCons.1 (szCons.1 (szCons.1 (szCons.1 h).2).2).2).2).2).2).2).2).2).2).2).2).2).2).2).2).2).2).2).2).2).2).2).1 y hy)⟩, trivial⟩
def W_ibiiLiELiiisELiELsEiiiiiiiiiLiEiiiLiELiiiLiiisEELiiLiEiiisLiEE (x : Int × Bool × Int × Int × (List (Int × Unit)) × (List R_iiis) × (List (Int × Unit)) × (List (ByteArray × Unit)) × Int × Int × Int × Int × Int × Int × Int × Int × Int × (List (Int × Unit)) × Int × Int × Int × (List (Int × Unit)) × (List R_iiiLiiisE) × (List R_iiLiEiiisLiE) × Unit) : Nat := (List.length x.2.2.2.2.1 + wl W_i x.2.2.2.2.1) + (List.length x.2.2.2.2.2.1 + wl W_iiis x.2.2.2.2.2.1) + (List.length x.2.2.2.2.2.2.1 + wl W_i x.2.2.2.2.2.2.1) + (List.length x.2.2.2.2.2.2.2.1 + wl W_s x.2.2.2.2.2.2.2.1) + (List.length x.2.2.2.2.2.2.2.2.2.2.2.2.2.2.2.2.2.1 + wl W_i x.2.2.2.2.2.2.2.2.2.2.2.2.2.2.2.2.2.1) + (List.length x.2.2.2.2.2.2.2.2.2.2.2.2.2.2.2.2.2.2.2.2.2.1 + wl W_i x.2.2.2.2.2.2.2.2.2.2.2.2.2.2.2.2.2.2.2.2.2.1) + (List.length x.2.2.2.2.2.2.2.2.2.2.2.2.2.2.2.2.2.2.2.2.2.2.1 + wl W_iiiLiiisE x.2.2.2.2.2.2.2.2.2.2.2.2.2.2.2.2.2.2.2.2.2.2.1) + (List.length x.2.2.2.2.2.2.2.2.2.2.2.2.2.2.2.2.2.2.2.2.2.2.2.1 + wl W_iiLiEiiisLiE x.2.2.2.2.2.2.2.2.2.2.2.2.2.2.2.2.2.2.2.2.2.2.2.1)

/-! laws.eqDaemon -/
theorem eq_Daemon (a0c0 : Int) (a0c1 : Bool) (a0c2 : Int) (a0c3 : Int) (a0c4 : List (Int × Unit)) (a0c5 : List R_iiis) (a0c6 : List (Int × Unit)) (a0c7 : List (ByteArray × Unit)) (a0c8 : Int) (a0c9 : Int) (a0c10 : Int) (a0c11 : Int) (a0c12 : Int) (a0c13 : Int) (a0c14 : Int) (a0c15 : Int) (a0c16 : Int) (a0c17 : List (Int × Unit)) (a0c18 : Int) (a0c19 : Int) (a0c20 : Int) (a0c21 : List (Int × Unit)) (a0c22 : List R_iiiLiiisE) (a0c23 : List R_iiLiEiiisLiE) (h : W_ibiiLiELiiisELiELsEiiiiiiiiiLiEiiiLiELiiiLiiisEELiiLiEiiisLiEE (a0c0, a0c1, a0c2, a0c3, a0c4, a0c5, a0c6, a0c7, a0c8, a0c9, a0c10, a0c11, a0c12, a0c13, a0c14, a0c15, a0c16, a0c17, a0c18, a0c19, a0c20, a0c21, a0c22, a0c23, ()) ≤ 4194304) : laws_eqDaemon a0c0 a0c1 a0c2 a0c3 a0c4 a0c5 a0c6 a0c7 a0c8 a0c9 a0c10 a0c11 a0c12 a0c13 a0c14 a0c15 a0c16 a0c17 a0c18 a0c19 a0c20 a0c21 a0c22 a0c23 a0c0 a0c1 a0c2 a0c3 a0c4 a0c5 a0c6 a0c7 a0c8 a0c9 a0c10 a0c11 a0c12 a0c13 a0c14 a0c15 a0c16 a0c17 a0c18 a0c19 a0c20 a0c21 a0c22 a0c23 = some (true, ()) := by
  have h : (List.length a0c4 + wl W_i a0c4) + (List.length a0c5 + wl W_iiis a0c5) + (List.length a0c6 + wl W_i a0c6) + (List.length a0c7 + wl W_s a0c7) + (List.length a0c17 + wl W_i a0c17) + (List.length a0c21 + wl W_i a0c21) + (List.length a0c22 + wl W_iiiLiiisE a0c22) + (List.length a0c23 + wl W_iiLiEiiisLiE a0c23) ≤ 4194304 := h
  unfold laws_eqDaemon
  simp only [decide_true, beq_self_eq_true, Bool.not_true, Bool.not_false, cond_true, cond_false, strEq_self, Option.bind_some, eq_Mate a0c2 a0c3 a0c4 a0c5 a0c6 a0c7 a0c8 a0c9 a0c10 a0c11 a0c12 a0c13 a0c14 a0c15 a0c16 a0c17 (by show (List.length a0c4 + wl W_i a0c4) + (List.length a0c5 + wl W_iiis a0c5) + (List.length a0c6 + wl W_i a0c6) + (List.length a0c7 + wl W_s a0c7) + (List.length a0c17 + wl W_i a0c17) ≤ 4194304; omega), eq_Ring a0c20 a0c21 (by show (List.length a0c21 + wl W_i a0c21) ≤ 4194304; omega), eq_BundleS a0c22 (by show (List.length a0c22 + wl W_iiiLiiisE a0c22) ≤ 4194304; omega), eq_EventS a0c23 (by show (List.length a0c23 + wl W_iiLiEiiisLiE a0c23) ≤ 4194304; omega)]

/-! laws.eqDaemonS -/
theorem eq_DaemonS (a0 : List R_ibiiLiELiiisELiELsEiiiiiiiiiLiEiiiLiELiiiLiiisEELiiLiEiiisLiEE) (h : List.length a0 + wl W_ibiiLiELiiisELiELsEiiiiiiiiiLiEiiiLiELiiiLiiisEELiiLiEiiisLiEE a0 ≤ 4194304) : laws_eqDaemonS a0 a0 = some (true, ()) := by
  have hl : loopV laws_eqDaemonS_r0 (a0, a0, (0 : Int), ()) = some (.inl ()) := by
    have := loop_run (round := laws_eqDaemonS_r0) (e := .inl ()) a0.length (fun k => (a0, a0, ((k : Nat) : Int), ())) (by
      simp only [laws_eqDaemonS_r0, laws_eqDaemonS_c0, lt_nat_irr, cond_false]) (fun k hk => by
      simp only [laws_eqDaemonS_r0, laws_eqDaemonS_c0, lt_nat_true hk, zero_le_nat, cond_true, cond_false, toNat_nat, List.getElem?_eq_getElem hk, Option.bind_some, decide_true, beq_self_eq_true, strEq_self, Bool.not_true, succ_wrap (show k < 4611686018427387904 by omega), eq_Daemon ((a0[k]).1) ((a0[k]).2.1) ((a0[k]).2.2.1) ((a0[k]).2.2.2.1) ((a0[k]).2.2.2.2.1) ((a0[k]).2.2.2.2.2.1) ((a0[k]).2.2.2.2.2.2.1) ((a0[k]).2.2.2.2.2.2.2.1) ((a0[k]).2.2.2.2.2.2.2.2.1) ((a0[k]).2.2.2.2.2.2.2.2.2.1) ((a0[k]).2.2.2.2.2.2.2.2.2.2.1) ((a0[k]).2.2.2.2.2.2.2.2.2.2.2.1) ((a0[k]).2.2.2.2.2.2.2.2.2.2.2.2.1) ((a0[k]).2.2.2.2.2.2.2.2.2.2.2.2.2.1) ((a0[k]).2.2.2.2.2.2.2.2.2.2.2.2.2.2.1) ((a0[k]).2.2.2.2.2.2.2.2.2.2.2.2.2.2.2.1) ((a0[k]).2.2.2.2.2.2.2.2.2.2.2.2.2.2.2.2.1) ((a0[k]).2.2.2.2.2.2.2.2.2.2.2.2.2.2.2.2.2.1) ((a0[k]).2.2.2.2.2.2.2.2.2.2.2.2.2.2.2.2.2.2.1) ((a0[k]).2.2.2.2.2.2.2.2.2.2.2.2.2.2.2.2.2.2.2.1) ((a0[k]).2.2.2.2.2.2.2.2.2.2.2.2.2.2.2.2.2.2.2.2.1) ((a0[k]).2.2.2.2.2.2.2.2.2.2.2.2.2.2.2.2.2.2.2.2.2.1) ((a0[k]).2.2.2.2.2.2.2.2.2.2.2.2.2.2.2.2.2.2.2.2.2.2.1) ((a0[k]).2.2.2.2.2.2.2.2.2.2.2.2.2.2.2.2.2.2.2.2.2.2.2.1) (Nat.le_trans (wl_mem W_ibiiLiELiiisELiELsEiiiiiiiiiLiEiiiLiELiiiLiiisEELiiLiEiiisLiEE a0 _ (List.getElem_mem hk)) (by omega))])
    simpa using this
  unfold laws_eqDaemonS
  simp only [decide_true, Bool.not_true, cond_false, hl, outK_inl]

def Z_iiiiiisiiiiiLiEiiiLiiisE (x : Int × Int × Int × Int × Int × Int × ByteArray × Int × Int × Int × Int × Int × (List (Int × Unit)) × Int × Int × Int × (List R_iiis) × Unit) : Prop := (-9223372036854775808 ≤ x.1 ∧ x.1 < 9223372036854775808) ∧ (-9223372036854775808 ≤ x.2.1 ∧ x.2.1 < 9223372036854775808) ∧ (-9223372036854775808 ≤ x.2.2.1 ∧ x.2.2.1 < 9223372036854775808) ∧ (-9223372036854775808 ≤ x.2.2.2.1 ∧ x.2.2.2.1 < 9223372036854775808) ∧ (-9223372036854775808 ≤ x.2.2.2.2.1 ∧ x.2.2.2.2.1 < 9223372036854775808) ∧ (-9223372036854775808 ≤ x.2.2.2.2.2.1 ∧ x.2.2.2.2.2.1 < 9223372036854775808) ∧ (ByteArray.size x.2.2.2.2.2.2.1 ≤ 9223372036854775807) ∧ (-9223372036854775808 ≤ x.2.2.2.2.2.2.2.1 ∧ x.2.2.2.2.2.2.2.1 < 9223372036854775808) ∧ (-9223372036854775808 ≤ x.2.2.2.2.2.2.2.2.1 ∧ x.2.2.2.2.2.2.2.2.1 < 9223372036854775808) ∧ (-9223372036854775808 ≤ x.2.2.2.2.2.2.2.2.2.1 ∧ x.2.2.2.2.2.2.2.2.2.1 < 9223372036854775808) ∧ (-9223372036854775808 ≤ x.2.2.2.2.2.2.2.2.2.2.1 ∧ x.2.2.2.2.2.2.2.2.2.2.1 < 9223372036854775808) ∧ (-9223372036854775808 ≤ x.2.2.2.2.2.2.2.2.2.2.2.1 ∧ x.2.2.2.2.2.2.2.2.2.2.2.1 < 9223372036854775808) ∧ (List.length x.2.2.2.2.2.2.2.2.2.2.2.2.1 ≤ 9223372036854775807 ∧ ∀ y ∈ x.2.2.2.2.2.2.2.2.2.2.2.2.1, Z_i y) ∧ (-9223372036854775808 ≤ x.2.2.2.2.2.2.2.2.2.2.2.2.2.1 ∧ x.2.2.2.2.2.2.2.2.2.2.2.2.2.1 < 9223372036854775808) ∧ (-9223372036854775808 ≤ x.2.2.2.2.2.2.2.2.2.2.2.2.2.2.1 ∧ x.2.2.2.2.2.2.2.2.2.2.2.2.2.2.1 < 9223372036854775808) ∧ (-9223372036854775808 ≤ x.2.2.2.2.2.2.2.2.2.2.2.2.2.2.2.1 ∧ x.2.2.2.2.2.2.2.2.2.2.2.2.2.2.2.1 < 9223372036854775808) ∧ (List.length x.2.2.2.2.2.2.2.2.2.2.2.2.2.2.2.2.1 ≤ 9223372036854775807 ∧ ∀ y ∈ x.2.2.2.2.2.2.2.2.2.2.2.2.2.2.2.2.1, Z_iiis y) ∧ True
theorem z_iiiiiisiiiiiLiEiiiLiiisE {x : Int × Int × Int × Int × Int × Int × ByteArray × Int × Int × Int × Int × Int × (List (Int × Unit)) × Int × Int × Int × (List R_iiis) × Unit} (h : SzR T_iiiiiisiiiiiLiEiiiLiiisE x) : Z_iiiiiisiiiiiLiEiiiLiiisE x := ⟨sz_int (szCons.1 h).1, sz_int (szCons.1 (szCons.1 h).2).1, sz_int (szCons.1 (szCons.1 (szCons.1 h).2).2).1, sz_int (szCons.1 (szCons.1 (szCons.1 (szCons.1 h).2).2).2).1, sz_int (szCons.1 (szCons.1 (szCons.1 (szCons.1 (szCons.1 h).2).2).2).2).1, sz_int (szCons.1 (szCons.1 (szCons.1 (szCons.1 (szCons.1 (szCons.1 h).2).2).2).2).2).1, sz_str (szCons.1 (szCons.1 (szCons.1 (szCons.1 (szCons.1 (szCons.1 (szCons.1 h).2).2).2).2).2).2).1, sz_int (szCons.1 (szCons.1 (szCons.1 (szCons.1 (szCons.1 (szCons.1 (szCons.1 (szCons.1 h).2).2).2).2).2).2).2).1, sz_int (szCons.1 (szCons.1 (szCons.1 (szCons.1 (szCons.1 (szCons.1 (szCons.1 (szCons.1 (szCons.1 h).2).2).2).2).2).2).2).2).1, sz_int (szCons.1 (szCons.1 (szCons.1 (szCons.1 (szCons.1 (szCons.1 (szCons.1 (szCons.1 (szCons.1 (szCons.1 h).2).2).2).2).2).2).2).2).2).1, sz_int (szCons.1 (szCons.1 (szCons.1 (szCons.1 (szCons.1 (szCons.1 (szCons.1 (szCons.1 (szCons.1 (szCons.1 (szCons.1 h).2).2).2).2).2).2).2).2).2).2).1, sz_int (szCons.1 (szCons.1 (szCons.1 (szCons.1 (szCons.1 (szCons.1 (szCons.1 (szCons.1 (szCons.1 (szCons.1 (szCons.1 (szCons.1 h).2).2).2).2).2).2).2).2).2).2).2).1, ⟨sz_len (szCons.1 (szCons.1 (szCons.1 (szCons.1 (szCons.1 (szCons.1 (szCons.1 (szCons.1 (szCons.1 (szCons.1 (szCons.1 (szCons.1 (szCons.1 h).2).2).2).2).2).2).2).2).2).2).2).2).1, fun y hy => z_i (sz_el (szCons.1 (szCons.1 (szCons.1 (szCons.1 (szCons.1 (szCons.1 (szCons.1 (szCons.1 (szCons.1 (szCons.1 (szCons.1 (szCons.1 (szCons.1 h).2).2).2).2).2).2).2).2).2).2).2).2).1 y hy)⟩, sz_int (szCons.1 (szCons.1 (szCons.1 (szCons.1 (szCons.1 (szCons.1 (szCons.1 (szCons.1 (szCons.1 (szCons.1 (szCons.1 (szCons.1 (szCons.1 (szCons.1 h).2).2).2).2).2).2).2).2).2).2).2).2).2).1, sz_int (szCons.1 (szCons.1 (szCons.1 (szCons.1 (szCons.1 (szCons.1 (szCons.1 (szCons.1 (szCons.1 (szCons.1 (szCons.1 (szCons.1 (szCons.1 (szCons.1 (szCons.1 h).2).2).2).2).2).2).2).2).2).2).2).2).2).2).1, sz_int (szCons.1 (szCons.1 (szCons.1 (szCons.1 (szCons.1 (szCons.1 (szCons.1 (szCons.1 (szCons.1 (szCons.1 (szCons.1 (szCons.1 (szCons.1 (szCons.1 (szCons.1 (szCons.1 h).2).2).2).2).2).2).2).2).2).2).2).2).2).2).2).1, ⟨sz_len (szCons.1 (szCons.1 (szCons.1 (szCons.1 (szCons.1 (szCons.1 (szCons.1 (szCons.1 (szCons.1 (szCons.1 (szCons.1 (szCons.1 (szCons.1 (szCons.1 (szCons.1 (szCons.1 (szCons.1 h).2).2).2).2).2).2).2).2).2).2).2).2).2).2).2).2).1, fun y hy => z_iiis (sz_el (szCons.1 (szCons.1 (szCons.1 (szCons.1 (szCons.1 (szCons.1 (szCons.1 (szCons.1 (szCons.1 (szCons.1 (szCons.1 (szCons.1 (szCons.1 (szCons.1 (szCons.1 (szCons.1 (szCons.1 h).2).2).2).2).2).2).2).2).2).2).2).2).2).2).2).2).1 y hy)⟩, trivial⟩
def W_iiiiiisiiiiiLiEiiiLiiisE (x : Int × Int × Int × Int × Int × Int × ByteArray × Int × Int × Int × Int × Int × (List (Int × Unit)) × Int × Int × Int × (List R_iiis) × Unit) : Nat := ByteArray.size x.2.2.2.2.2.2.1 + (List.length x.2.2.2.2.2.2.2.2.2.2.2.2.1 + wl W_i x.2.2.2.2.2.2.2.2.2.2.2.2.1) + (List.length x.2.2.2.2.2.2.2.2.2.2.2.2.2.2.2.2.1 + wl W_iiis x.2.2.2.2.2.2.2.2.2.2.2.2.2.2.2.2.1)

/-! laws.eqLetter -/
theorem eq_Letter (a0c0 : Int) (a0c1 : Int) (a0c2 : Int) (a0c3 : Int) (a0c4 : Int) (a0c5 : Int) (a0c6 : ByteArray) (a0c7 : Int) (a0c8 : Int) (a0c9 : Int) (a0c10 : Int) (a0c11 : Int) (a0c12 : List (Int × Unit)) (a0c13 : Int) (a0c14 : Int) (a0c15 : Int) (a0c16 : List R_iiis) (h : W_iiiiiisiiiiiLiEiiiLiiisE (a0c0, a0c1, a0c2, a0c3, a0c4, a0c5, a0c6, a0c7, a0c8, a0c9, a0c10, a0c11, a0c12, a0c13, a0c14, a0c15, a0c16, ()) ≤ 4194304) : laws_eqLetter a0c0 a0c1 a0c2 a0c3 a0c4 a0c5 a0c6 a0c7 a0c8 a0c9 a0c10 a0c11 a0c12 a0c13 a0c14 a0c15 a0c16 a0c0 a0c1 a0c2 a0c3 a0c4 a0c5 a0c6 a0c7 a0c8 a0c9 a0c10 a0c11 a0c12 a0c13 a0c14 a0c15 a0c16 = some (true, ()) := by
  have h : ByteArray.size a0c6 + (List.length a0c12 + wl W_i a0c12) + (List.length a0c16 + wl W_iiis a0c16) ≤ 4194304 := h
  unfold laws_eqLetter
  simp only [decide_true, beq_self_eq_true, Bool.not_true, Bool.not_false, cond_true, cond_false, strEq_self, Option.bind_some, eq_Item a0c3 a0c4 a0c5 a0c6 (by show ByteArray.size a0c6 ≤ 4194304; omega), eq_Token a0c7 a0c8 a0c9 a0c10 a0c11 a0c12 (by show (List.length a0c12 + wl W_i a0c12) ≤ 4194304; omega), eq_Bundle a0c13 a0c14 a0c15 a0c16 (by show (List.length a0c16 + wl W_iiis a0c16) ≤ 4194304; omega)]

/-! laws.eqLetterS -/
theorem eq_LetterS (a0 : List R_iiiiiisiiiiiLiEiiiLiiisE) (h : List.length a0 + wl W_iiiiiisiiiiiLiEiiiLiiisE a0 ≤ 4194304) : laws_eqLetterS a0 a0 = some (true, ()) := by
  have hl : loopV laws_eqLetterS_r0 (a0, a0, (0 : Int), ()) = some (.inl ()) := by
    have := loop_run (round := laws_eqLetterS_r0) (e := .inl ()) a0.length (fun k => (a0, a0, ((k : Nat) : Int), ())) (by
      simp only [laws_eqLetterS_r0, laws_eqLetterS_c0, lt_nat_irr, cond_false]) (fun k hk => by
      simp only [laws_eqLetterS_r0, laws_eqLetterS_c0, lt_nat_true hk, zero_le_nat, cond_true, cond_false, toNat_nat, List.getElem?_eq_getElem hk, Option.bind_some, decide_true, beq_self_eq_true, strEq_self, Bool.not_true, succ_wrap (show k < 4611686018427387904 by omega), eq_Letter ((a0[k]).1) ((a0[k]).2.1) ((a0[k]).2.2.1) ((a0[k]).2.2.2.1) ((a0[k]).2.2.2.2.1) ((a0[k]).2.2.2.2.2.1) ((a0[k]).2.2.2.2.2.2.1) ((a0[k]).2.2.2.2.2.2.2.1) ((a0[k]).2.2.2.2.2.2.2.2.1) ((a0[k]).2.2.2.2.2.2.2.2.2.1) ((a0[k]).2.2.2.2.2.2.2.2.2.2.1) ((a0[k]).2.2.2.2.2.2.2.2.2.2.2.1) ((a0[k]).2.2.2.2.2.2.2.2.2.2.2.2.1) ((a0[k]).2.2.2.2.2.2.2.2.2.2.2.2.2.1) ((a0[k]).2.2.2.2.2.2.2.2.2.2.2.2.2.2.1) ((a0[k]).2.2.2.2.2.2.2.2.2.2.2.2.2.2.2.1) ((a0[k]).2.2.2.2.2.2.2.2.2.2.2.2.2.2.2.2.1) (Nat.le_trans (wl_mem W_iiiiiisiiiiiLiEiiiLiiisE a0 _ (List.getElem_mem hk)) (by omega))])
    simpa using this
  unfold laws_eqLetterS
  simp only [decide_true, Bool.not_true, cond_false, hl, outK_inl]

def Z_LiLiEELibiiLiELiiisELiELsEiiiiiiiiiLiEiiiLiELiiiLiiisEELiiLiEiiisLiEEELiiiiiisiiiiiLiEiiiLiiisEELiiLiEiiisLiEE (x : (List R_iLiE) × (List R_ibiiLiELiiisELiELsEiiiiiiiiiLiEiiiLiELiiiLiiisEELiiLiEiiisLiEE) × (List R_iiiiiisiiiiiLiEiiiLiiisE) × (List R_iiLiEiiisLiE) × Unit) : Prop := (List.length x.1 ≤ 9223372036854775807 ∧ ∀ y ∈ x.1, Z_iLiE y) ∧ (List.length x.2.1 ≤ 9223372036854775807 ∧ ∀ y ∈ x.2.1, Z_ibiiLiELiiisELiELsEiiiiiiiiiLiEiiiLiELiiiLiiisEELiiLiEiiisLiEE y) ∧ (List.length x.2.2.1 ≤ 9223372036854775807 ∧ ∀ y ∈ x.2.2.1, Z_iiiiiisiiiiiLiEiiiLiiisE y) ∧ (List.length x.2.2.2.1 ≤ 9223372036854775807 ∧ ∀ y ∈ x.2.2.2.1, Z_iiLiEiiisLiE y) ∧ True
theorem z_LiLiEELibiiLiELiiisELiELsEiiiiiiiiiLiEiiiLiELiiiLiiisEELiiLiEiiisLiEEELiiiiiisiiiiiLiEiiiLiiisEELiiLiEiiisLiEE {x : (List R_iLiE) × (List R_ibiiLiELiiisELiELsEiiiiiiiiiLiEiiiLiELiiiLiiisEELiiLiEiiisLiEE) × (List R_iiiiiisiiiiiLiEiiiLiiisE) × (List R_iiLiEiiisLiE) × Unit} (h : SzR T_LiLiEELibiiLiELiiisELiELsEiiiiiiiiiLiEiiiLiELiiiLiiisEELiiLiEiiisLiEEELiiiiiisiiiiiLiEiiiLiiisEELiiLiEiiisLiEE x) : Z_LiLiEELibiiLiELiiisELiELsEiiiiiiiiiLiEiiiLiELiiiLiiisEELiiLiEiiisLiEEELiiiiiisiiiiiLiEiiiLiiisEELiiLiEiiisLiEE x := ⟨⟨sz_len (szCons.1 h).1, fun y hy => z_iLiE (sz_el (szCons.1 h).1 y hy)⟩, ⟨sz_len (szCons.1 (szCons.1 h).2).1, fun y hy => z_ibiiLiELiiisELiELsEiiiiiiiiiLiEiiiLiELiiiLiiisEELiiLiEiiisLiEE (sz_el (szCons.1 (szCons.1 h).2).1 y hy)⟩, ⟨sz_len (szCons.1 (szCons.1 (szCons.1 h).2).2).1, fun y hy => z_iiiiiisiiiiiLiEiiiLiiisE (sz_el (szCons.1 (szCons.1 (szCons.1 h).2).2).1 y hy)⟩, ⟨sz_len (szCons.1 (szCons.1 (szCons.1 (szCons.1 h).2).2).2).1, fun y hy => z_iiLiEiiisLiE (sz_el (szCons.1 (szCons.1 (szCons.1 (szCons.1 h).2).2).2).1 y hy)⟩, trivial⟩
def W_LiLiEELibiiLiELiiisELiELsEiiiiiiiiiLiEiiiLiELiiiLiiisEELiiLiEiiisLiEEELiiiiiisiiiiiLiEiiiLiiisEELiiLiEiiisLiEE (x : (List R_iLiE) × (List R_ibiiLiELiiisELiELsEiiiiiiiiiLiEiiiLiELiiiLiiisEELiiLiEiiisLiEE) × (List R_iiiiiisiiiiiLiEiiiLiiisE) × (List R_iiLiEiiisLiE) × Unit) : Nat := (List.length x.1 + wl W_iLiE x.1) + (List.length x.2.1 + wl W_ibiiLiELiiisELiELsEiiiiiiiiiLiEiiiLiELiiiLiiisEELiiLiEiiisLiEE x.2.1) + (List.length x.2.2.1 + wl W_iiiiiisiiiiiLiEiiiLiiisE x.2.2.1) + (List.length x.2.2.2.1 + wl W_iiLiEiiisLiE x.2.2.2.1)

/-! laws.eqWorld -/
theorem eq_World (a0c0 : List R_iLiE) (a0c1 : List R_ibiiLiELiiisELiELsEiiiiiiiiiLiEiiiLiELiiiLiiisEELiiLiEiiisLiEE) (a0c2 : List R_iiiiiisiiiiiLiEiiiLiiisE) (a0c3 : List R_iiLiEiiisLiE) (h : W_LiLiEELibiiLiELiiisELiELsEiiiiiiiiiLiEiiiLiELiiiLiiisEELiiLiEiiisLiEEELiiiiiisiiiiiLiEiiiLiiisEELiiLiEiiisLiEE (a0c0, a0c1, a0c2, a0c3, ()) ≤ 4194304) : laws_eqWorld a0c0 a0c1 a0c2 a0c3 a0c0 a0c1 a0c2 a0c3 = some (true, ()) := by
  have h : (List.length a0c0 + wl W_iLiE a0c0) + (List.length a0c1 + wl W_ibiiLiELiiisELiELsEiiiiiiiiiLiEiiiLiELiiiLiiisEELiiLiEiiisLiEE a0c1) + (List.length a0c2 + wl W_iiiiiisiiiiiLiEiiiLiiisE a0c2) + (List.length a0c3 + wl W_iiLiEiiisLiE a0c3) ≤ 4194304 := h
  unfold laws_eqWorld
  simp only [decide_true, beq_self_eq_true, Bool.not_true, Bool.not_false, cond_true, cond_false, strEq_self, Option.bind_some, eq_RingS a0c0 (by show (List.length a0c0 + wl W_iLiE a0c0) ≤ 4194304; omega), eq_DaemonS a0c1 (by show (List.length a0c1 + wl W_ibiiLiELiiisELiELsEiiiiiiiiiLiEiiiLiELiiiLiiisEELiiLiEiiisLiEE a0c1) ≤ 4194304; omega), eq_LetterS a0c2 (by show (List.length a0c2 + wl W_iiiiiisiiiiiLiEiiiLiiisE a0c2) ≤ 4194304; omega), eq_EventS a0c3 (by show (List.length a0c3 + wl W_iiLiEiiisLiE a0c3) ≤ 4194304; omega)]

end Go.TM
