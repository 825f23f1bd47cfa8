/- Sizes, copies, sameness: what the laws' own helping functions answer. -/
import Derived.Test.YtmljblppihbkdaaGF1
set_option linter.unusedSimpArgs false
set_option linter.unusedVariables false
namespace Go.TM
open Go

def Z_i (x : Int × Unit) : Prop := (-9223372036854775808 ≤ x.1 ∧ x.1 < 9223372036854775808) ∧ True
theorem z_i {x : Int × Unit} (h : SzR T_i x) : Z_i x := ⟨sz_int (szCons.1 h).1, trivial⟩
def W_i (_ : Int × Unit) : Nat := 0

/-! laws.szIntS -/
theorem sz_IntS (a0 : List (Int × Unit)) {left : Int} (hz : List.length a0 ≤ 9223372036854775807 ∧ ∀ y ∈ a0, Z_i y) (h0 : 0 ≤ left) (h1 : left ≤ 1048576) : Left (laws_szIntS a0 left) (List.length a0 + wl W_i a0) left := by
  obtain ⟨hlen, hel⟩ := hz
  unfold laws_szIntS
  rw [wrap_id (by omega) (by omega)]
  by_cases hd : left - ((List.length a0 : Nat) : Int) < 0
  · rw [dec_true hd]
    exact ⟨-1, rfl, by omega, by omega⟩
  rw [dec_false hd]
  simp only [cond_false]
  have hw : wl W_i a0 = 0 := wl_zero _ (fun _ => rfl) _
  exact ⟨_, rfl, by omega, by intro; omega⟩

def Z_iLiE (x : Int × (List (Int × Unit)) × Unit) : Prop := (-9223372036854775808 ≤ x.1 ∧ x.1 < 9223372036854775808) ∧ (List.length x.2.1 ≤ 9223372036854775807 ∧ ∀ y ∈ x.2.1, Z_i y) ∧ True
theorem z_iLiE {x : Int × (List (Int × Unit)) × Unit} (h : SzR T_iLiE x) : Z_iLiE x := ⟨sz_int (szCons.1 h).1, ⟨sz_len (szCons.1 (szCons.1 h).2).1, fun y hy => z_i (sz_el (szCons.1 (szCons.1 h).2).1 y hy)⟩, trivial⟩
def W_iLiE (x : Int × (List (Int × Unit)) × Unit) : Nat := (List.length x.2.1 + wl W_i x.2.1)

/-! laws.szRing -/
theorem sz_Ring (a0c0 : Int) (a0c1 : List (Int × Unit)) {left : Int} (hz : Z_iLiE (a0c0, a0c1, ())) (h0 : 0 ≤ left) (h1 : left ≤ 1048576) : Left (laws_szRing a0c0 a0c1 left) (W_iLiE (a0c0, a0c1, ())) left := by
  have hz : (-9223372036854775808 ≤ a0c0 ∧ a0c0 < 9223372036854775808) ∧ (List.length a0c1 ≤ 9223372036854775807 ∧ ∀ y ∈ a0c1, Z_i y) ∧ True := hz
  show Left _ ((List.length a0c1 + wl W_i a0c1)) left
  obtain ⟨z0, z1, _⟩ := hz
  unfold laws_szRing
  obtain ⟨m1, e1, l1, w1⟩ := sz_IntS a0c1 (left := left) z1 (by omega) (by omega)
  rw [e1]
  simp only [Option.bind_some]
  by_cases hd1 : m1 < 0
  · rw [dec_true hd1]
    exact ⟨-1, rfl, by omega, by omega⟩
  rw [dec_false hd1]
  simp only [cond_false]
  have w1 := w1 (by omega)
  exact ⟨_, rfl, by omega, by intro; omega⟩

def Z_iiis (x : Int × Int × Int × ByteArray × Unit) : Prop := (-9223372036854775808 ≤ x.1 ∧ x.1 < 9223372036854775808) ∧ (-9223372036854775808 ≤ x.2.1 ∧ x.2.1 < 9223372036854775808) ∧ (-9223372036854775808 ≤ x.2.2.1 ∧ x.2.2.1 < 9223372036854775808) ∧ (ByteArray.size x.2.2.2.1 ≤ 9223372036854775807) ∧ True
theorem z_iiis {x : Int × Int × Int × ByteArray × Unit} (h : SzR T_iiis x) : Z_iiis x := ⟨sz_int (szCons.1 h).1, sz_int (szCons.1 (szCons.1 h).2).1, sz_int (szCons.1 (szCons.1 (szCons.1 h).2).2).1, sz_str (szCons.1 (szCons.1 (szCons.1 (szCons.1 h).2).2).2).1, trivial⟩
def W_iiis (x : Int × Int × Int × ByteArray × Unit) : Nat := ByteArray.size x.2.2.2.1

/-! laws.szItem -/
theorem sz_Item (a0c0 : Int) (a0c1 : Int) (a0c2 : Int) (a0c3 : ByteArray) {left : Int} (hz : Z_iiis (a0c0, a0c1, a0c2, a0c3, ())) (h0 : 0 ≤ left) (h1 : left ≤ 1048576) : Left (laws_szItem a0c0 a0c1 a0c2 a0c3 left) (W_iiis (a0c0, a0c1, a0c2, a0c3, ())) left := by
  have hz : (-9223372036854775808 ≤ a0c0 ∧ a0c0 < 9223372036854775808) ∧ (-9223372036854775808 ≤ a0c1 ∧ a0c1 < 9223372036854775808) ∧ (-9223372036854775808 ≤ a0c2 ∧ a0c2 < 9223372036854775808) ∧ (ByteArray.size a0c3 ≤ 9223372036854775807) ∧ True := hz
  show Left _ (ByteArray.size a0c3) left
  obtain ⟨z0, z1, z2, z3, _⟩ := hz
  unfold laws_szItem
  rw [wrap_id (by omega) (by omega)]
  by_cases hd3 : left - ((ByteArray.size a0c3 : Nat) : Int) < 0
  · rw [dec_true hd3]
    exact ⟨-1, rfl, by omega, by omega⟩
  rw [dec_false hd3]
  simp only [cond_false]
  exact ⟨_, rfl, by omega, by intro; omega⟩

/-! laws.szItemS -/
theorem sz_ItemS (a0 : List R_iiis) {left : Int} (hz : List.length a0 ≤ 9223372036854775807 ∧ ∀ y ∈ a0, Z_iiis y) (h0 : 0 ≤ left) (h1 : left ≤ 1048576) : Left (laws_szItemS a0 left) (List.length a0 + wl W_iiis a0) left := by
  obtain ⟨hlen, hel⟩ := hz
  unfold laws_szItemS
  rw [wrap_id (by omega) (by omega)]
  by_cases hd : left - ((List.length a0 : Nat) : Int) < 0
  · rw [dec_true hd]
    exact ⟨-1, rfl, by omega, by omega⟩
  rw [dec_false hd]
  simp only [cond_false]
  obtain ⟨e, he, hq⟩ := loop_inv (round := laws_szItemS_r0) (x := (a0, left - ((List.length a0 : Nat) : Int), ((0 : Nat) : Int), ())) a0.length (fun k x => ∃ m : Int, x = (a0, m, ((k : Nat) : Int), ()) ∧ 0 ≤ m ∧ ((a0.length + wl W_iiis (a0.take k) : Nat) : Int) + m ≤ left)
    (fun e => match e with
      | .inl y => 0 ≤ y.1 ∧ ((a0.length + wl W_iiis a0 : Nat) : Int) + y.1 ≤ left
      | .inr y => y.1 = -1) (by
      rintro x ⟨m, rfl, g1, g2⟩
      refine ⟨.inl (m, ()), ?_, g1, by rw [List.take_length] at g2; exact g2⟩
      simp only [laws_szItemS_r0, laws_szItemS_c0, lt_nat_irr, cond_false]) (by
      rintro k x hk ⟨m, rfl, g1, g2⟩
      have hw := wl_take W_iiis a0 hk
      have hz := hel _ (List.getElem_mem hk)
      obtain ⟨m', e', l', w'⟩ := sz_Item ((a0[k]).1) ((a0[k]).2.1) ((a0[k]).2.2.1) ((a0[k]).2.2.2.1) (left := m) hz g1 (by omega)
      have w' : 0 ≤ m' → ((W_iiis a0[k] : Nat) : Int) + m' ≤ m := w'
      simp only [laws_szItemS_r0, laws_szItemS_c0, lt_nat_true hk, zero_le_nat, cond_true, toNat_nat, List.getElem?_eq_getElem hk, Option.bind_some, e', succ_wrap (show k < 4611686018427387904 by omega)]
      by_cases hm : m' < 0
      · rw [dec_true hm]
        exact .inl ⟨.inr (-1, ()), rfl, rfl⟩
      · rw [dec_false hm]
        have w' := w' (by omega)
        exact .inr ⟨_, rfl, _, rfl, by omega, by omega⟩)
      ⟨_, rfl, by omega, by rw [List.take_zero, wl_nil]; omega⟩
  rw [show (0 : Int) = ((0 : Nat) : Int) from rfl, he]
  cases e with
  | inl y => exact ⟨y.1, rfl, by have := hq.1; omega, fun _ => hq.2⟩
  | inr y => exact ⟨y.1, rfl, by rw [show y.1 = -1 from hq]; omega, by rw [show y.1 = -1 from hq]; omega⟩

def Z_iiiLiiisE (x : Int × Int × Int × (List R_iiis) × Unit) : Prop := (-9223372036854775808 ≤ x.1 ∧ x.1 < 9223372036854775808) ∧ (-9223372036854775808 ≤ x.2.1 ∧ x.2.1 < 9223372036854775808) ∧ (-9223372036854775808 ≤ x.2.2.1 ∧ x.2.2.1 < 9223372036854775808) ∧ (List.length x.2.2.2.1 ≤ 9223372036854775807 ∧ ∀ y ∈ x.2.2.2.1, Z_iiis y) ∧ True
theorem z_iiiLiiisE {x : Int × Int × Int × (List R_iiis) × Unit} (h : SzR T_iiiLiiisE x) : Z_iiiLiiisE x := ⟨sz_int (szCons.1 h).1, sz_int (szCons.1 (szCons.1 h).2).1, sz_int (szCons.1 (szCons.1 (szCons.1 h).2).2).1, ⟨sz_len (szCons.1 (szCons.1 (szCons.1 (szCons.1 h).2).2).2).1, fun y hy => z_iiis (sz_el (szCons.1 (szCons.1 (szCons.1 (szCons.1 h).2).2).2).1 y hy)⟩, trivial⟩
def W_iiiLiiisE (x : Int × Int × Int × (List R_iiis) × Unit) : Nat := (List.length x.2.2.2.1 + wl W_iiis x.2.2.2.1)

/-! laws.szBundle -/
theorem sz_Bundle (a0c0 : Int) (a0c1 : Int) (a0c2 : Int) (a0c3 : List R_iiis) {left : Int} (hz : Z_iiiLiiisE (a0c0, a0c1, a0c2, a0c3, ())) (h0 : 0 ≤ left) (h1 : left ≤ 1048576) : Left (laws_szBundle a0c0 a0c1 a0c2 a0c3 left) (W_iiiLiiisE (a0c0, a0c1, a0c2, a0c3, ())) left := by
  have hz : (-9223372036854775808 ≤ a0c0 ∧ a0c0 < 9223372036854775808) ∧ (-9223372036854775808 ≤ a0c1 ∧ a0c1 < 9223372036854775808) ∧ (-9223372036854775808 ≤ a0c2 ∧ a0c2 < 9223372036854775808) ∧ (List.length a0c3 ≤ 9223372036854775807 ∧ ∀ y ∈ a0c3, Z_iiis y) ∧ True := hz
  show Left _ ((List.length a0c3 + wl W_iiis a0c3)) left
  obtain ⟨z0, z1, z2, z3, _⟩ := hz
  unfold laws_szBundle
  obtain ⟨m3, e3, l3, w3⟩ := sz_ItemS a0c3 (left := left) z3 (by omega) (by omega)
  rw [e3]
  simp only [Option.bind_some]
  by_cases hd3 : m3 < 0
  · rw [dec_true hd3]
    exact ⟨-1, rfl, by omega, by omega⟩
  rw [dec_false hd3]
  simp only [cond_false]
  have w3 := w3 (by omega)
  exact ⟨_, rfl, by omega, by intro; omega⟩

/-! laws.szBundleS -/
theorem sz_BundleS (a0 : List R_iiiLiiisE) {left : Int} (hz : List.length a0 ≤ 9223372036854775807 ∧ ∀ y ∈ a0, Z_iiiLiiisE y) (h0 : 0 ≤ left) (h1 : left ≤ 1048576) : Left (laws_szBundleS a0 left) (List.length a0 + wl W_iiiLiiisE a0) left := by
  obtain ⟨hlen, hel⟩ := hz
  unfold laws_szBundleS
  rw [wrap_id (by omega) (by omega)]
  by_cases hd : left - ((List.length a0 : Nat) : Int) < 0
  · rw [dec_true hd]
    exact ⟨-1, rfl, by omega, by omega⟩
  rw [dec_false hd]
  simp only [cond_false]
  obtain ⟨e, he, hq⟩ := loop_inv (round := laws_szBundleS_r0) (x := (a0, left - ((List.length a0 : Nat) : Int), ((0 : Nat) : Int), ())) a0.length (fun k x => ∃ m : Int, x = (a0, m, ((k : Nat) : Int), ()) ∧ 0 ≤ m ∧ ((a0.length + wl W_iiiLiiisE (a0.take k) : Nat) : Int) + m ≤ left)
    (fun e => match e with
      | .inl y => 0 ≤ y.1 ∧ ((a0.length + wl W_iiiLiiisE a0 : Nat) : Int) + y.1 ≤ left
      | .inr y => y.1 = -1) (by
      rintro x ⟨m, rfl, g1, g2⟩
      refine ⟨.inl (m, ()), ?_, g1, by rw [List.take_length] at g2; exact g2⟩
      simp only [laws_szBundleS_r0, laws_szBundleS_c0, lt_nat_irr, cond_false]) (by
      rintro k x hk ⟨m, rfl, g1, g2⟩
      have hw := wl_take W_iiiLiiisE a0 hk
      have hz := hel _ (List.getElem_mem hk)
      obtain ⟨m', e', l', w'⟩ := sz_Bundle ((a0[k]).1) ((a0[k]).2.1) ((a0[k]).2.2.1) ((a0[k]).2.2.2.1) (left := m) hz g1 (by omega)
      have w' : 0 ≤ m' → ((W_iiiLiiisE a0[k] : Nat) : Int) + m' ≤ m := w'
      simp only [laws_szBundleS_r0, laws_szBundleS_c0, lt_nat_true hk, zero_le_nat, cond_true, toNat_nat, List.getElem?_eq_getElem hk, Option.bind_some, e', succ_wrap (show k < 4611686018427387904 by omega)]
      by_cases hm : m' < 0
      · rw [dec_true hm]
        exact .inl ⟨.inr (-1, ()), rfl, rfl⟩
      · rw [dec_false hm]
        have w' := w' (by omega)
        exact .inr ⟨_, rfl, _, rfl, by omega, by omega⟩)
      ⟨_, rfl, by omega, by rw [List.take_zero, wl_nil]; omega⟩
  rw [show (0 : Int) = ((0 : Nat) : Int) from rfl, he]
  cases e with
  | inl y => exact ⟨y.1, rfl, by have := hq.1; omega, fun _ => hq.2⟩
  | inr y => exact ⟨y.1, rfl, by rw [show y.1 = -1 from hq]; omega, by rw [show y.1 = -1 from hq]; omega⟩

/-! laws.toIntS -/
theorem to_IntS (a0 : List (Int × Unit)) (h : List.length a0 + wl W_i a0 ≤ 4194304) : laws_toIntS a0 = some (a0, ()) := by
  have hl : loopV laws_toIntS_r0 (a0, List.replicate a0.length ((0 : Int), ()), (0 : Int), ()) = some (.inl (a0, ())) := by
    have := loop_run (round := laws_toIntS_r0) (e := .inl (a0, ())) a0.length (fun k => (a0, a0.take k ++ List.replicate (a0.length - k) ((0 : Int), ()), ((k : Nat) : Int), ())) (by
      simp only [laws_toIntS_r0, laws_toIntS_c0, lt_nat_irr, cond_false, List.take_length, Nat.sub_self, List.replicate_zero, List.append_nil]) (fun k hk => by
      have hb : k < (a0.take k ++ List.replicate (a0.length - k) (((0 : Int), ()) : Int × Unit)).length := by simp; omega
      simp only [laws_toIntS_r0, laws_toIntS_c0, lt_nat_true hk, zero_le_nat, cond_true, toNat_nat, List.getElem?_eq_getElem hk, List.getElem?_eq_getElem hb, Option.bind_some, blt_true hb, succ_wrap (show k < 4611686018427387904 by omega)]
      rw [← copy_set a0 _ hk])
    simpa using this
  unfold laws_toIntS
  simp only [decide_true, zero_le_nat, cond_true, toNat_nat, ble_true (show a0.length * 8 ≤ lim by unfold lim; omega), hl, outK_inl]

/-! laws.toRing -/
theorem to_Ring (a0c0 : Int) (a0c1 : List (Int × Unit)) (h : W_iLiE (a0c0, a0c1, ()) ≤ 4194304) : laws_toRing a0c0 a0c1 = some (a0c0, a0c1, ()) := by
  have h : (List.length a0c1 + wl W_i a0c1) ≤ 4194304 := h
  unfold laws_toRing
  simp only [Option.bind_some, to_IntS a0c1 (by show (List.length a0c1 + wl W_i a0c1) ≤ 4194304; omega)]

/-! laws.toItem -/
theorem to_Item (a0c0 : Int) (a0c1 : Int) (a0c2 : Int) (a0c3 : ByteArray) (h : W_iiis (a0c0, a0c1, a0c2, a0c3, ()) ≤ 4194304) : laws_toItem a0c0 a0c1 a0c2 a0c3 = some (a0c0, a0c1, a0c2, a0c3, ()) := by
  have h : ByteArray.size a0c3 ≤ 4194304 := h
  rfl

/-! laws.toItemS -/
theorem to_ItemS (a0 : List R_iiis) (h : List.length a0 + wl W_iiis a0 ≤ 4194304) : laws_toItemS a0 = some (a0, ()) := by
  have hl : loopV laws_toItemS_r0 (a0, List.replicate a0.length ((0 : Int), (0 : Int), (0 : Int), ByteArray.empty, ()), (0 : Int), ()) = some (.inl (a0, ())) := by
    have := loop_run (round := laws_toItemS_r0) (e := .inl (a0, ())) a0.length (fun k => (a0, a0.take k ++ List.replicate (a0.length - k) ((0 : Int), (0 : Int), (0 : Int), ByteArray.empty, ()), ((k : Nat) : Int), ())) (by
      simp only [laws_toItemS_r0, laws_toItemS_c0, lt_nat_irr, cond_false, List.take_length, Nat.sub_self, List.replicate_zero, List.append_nil]) (fun k hk => by
      have hb : k < (a0.take k ++ List.replicate (a0.length - k) (((0 : Int), (0 : Int), (0 : Int), ByteArray.empty, ()) : Int × Int × Int × ByteArray × Unit)).length := by simp; omega
      simp only [laws_toItemS_r0, laws_toItemS_c0, lt_nat_true hk, zero_le_nat, cond_true, toNat_nat, List.getElem?_eq_getElem hk, List.getElem?_eq_getElem hb, Option.bind_some, blt_true hb, succ_wrap (show k < 4611686018427387904 by omega), to_Item ((a0[k]).1) ((a0[k]).2.1) ((a0[k]).2.2.1) ((a0[k]).2.2.2.1) (Nat.le_trans (wl_mem W_iiis a0 _ (List.getElem_mem hk)) (by omega))]
      rw [← copy_set a0 _ hk])
    simpa using this
  unfold laws_toItemS
  simp only [decide_true, zero_le_nat, cond_true, toNat_nat, ble_true (show a0.length * 40 ≤ lim by unfold lim; omega), hl, outK_inl]

/-! laws.toBundle -/
theorem to_Bundle (a0c0 : Int) (a0c1 : Int) (a0c2 : Int) (a0c3 : List R_iiis) (h : W_iiiLiiisE (a0c0, a0c1, a0c2, a0c3, ()) ≤ 4194304) : laws_toBundle a0c0 a0c1 a0c2 a0c3 = some (a0c0, a0c1, a0c2, a0c3, ()) := by
  have h : (List.length a0c3 + wl W_iiis a0c3) ≤ 4194304 := h
  unfold laws_toBundle
  simp only [Option.bind_some, to_ItemS a0c3 (by show (List.length a0c3 + wl W_iiis a0c3) ≤ 4194304; omega)]

/-! laws.toBundleS -/
theorem to_BundleS (a0 : List R_iiiLiiisE) (h : List.length a0 + wl W_iiiLiiisE a0 ≤ 4194304) : laws_toBundleS a0 = some (a0, ()) := by
  have hl : loopV laws_toBundleS_r0 (a0, List.replicate a0.length ((0 : Int), (0 : Int), (0 : Int), [], ()), (0 : Int), ()) = some (.inl (a0, ())) := by
    have := loop_run (round := laws_toBundleS_r0) (e := .inl (a0, ())) a0.length (fun k => (a0, a0.take k ++ List.replicate (a0.length - k) ((0 : Int), (0 : Int), (0 : Int), [], ()), ((k : Nat) : Int), ())) (by
      simp only [laws_toBundleS_r0, laws_toBundleS_c0, lt_nat_irr, cond_false, List.take_length, Nat.sub_self, List.replicate_zero, List.append_nil]) (fun k hk => by
      have hb : k < (a0.take k ++ List.replicate (a0.length - k) (((0 : Int), (0 : Int), (0 : Int), [], ()) : Int × Int × Int × (List R_iiis) × Unit)).length := by simp; omega
      simp only [laws_toBundleS_r0, laws_toBundleS_c0, lt_nat_true hk, zero_le_nat, cond_true, toNat_nat, List.getElem?_eq_getElem hk, List.getElem?_eq_getElem hb, Option.bind_some, blt_true hb, succ_wrap (show k < 4611686018427387904 by omega), to_Bundle ((a0[k]).1) ((a0[k]).2.1) ((a0[k]).2.2.1) ((a0[k]).2.2.2.1) (Nat.le_trans (wl_mem W_iiiLiiisE a0 _ (List.getElem_mem hk)) (by omega))]
      rw [← copy_set a0 _ hk])
    simpa using this
  unfold laws_toBundleS
  simp only [decide_true, zero_le_nat, cond_true, toNat_nat, ble_true (show a0.length * 48 ≤ lim by unfold lim; omega), hl, outK_inl]

/-! laws.eqIntS -/
theorem eq_IntS (a0 : List (Int × Unit)) (h : List.length a0 + wl W_i a0 ≤ 4194304) : laws_eqIntS a0 a0 = some (true, ()) := by
  have hl : loopV laws_eqIntS_r0 (a0, a0, (0 : Int), ()) = some (.inl ()) := by
    have := loop_run (round := laws_eqIntS_r0) (e := .inl ()) a0.length (fun k => (a0, a0, ((k : Nat) : Int), ())) (by
      simp only [laws_eqIntS_r0, laws_eqIntS_c0, lt_nat_irr, cond_false]) (fun k hk => by
      simp only [laws_eqIntS_r0, laws_eqIntS_c0, lt_nat_true hk, zero_le_nat, cond_true, cond_false, toNat_nat, List.getElem?_eq_getElem hk, Option.bind_some, decide_true, beq_self_eq_true, strEq_self, Bool.not_true, succ_wrap (show k < 4611686018427387904 by omega)])
    simpa using this
  unfold laws_eqIntS
  simp only [decide_true, Bool.not_true, cond_false, hl, outK_inl]

/-! laws.eqRing -/
theorem eq_Ring (a0c0 : Int) (a0c1 : List (Int × Unit)) (h : W_iLiE (a0c0, a0c1, ()) ≤ 4194304) : laws_eqRing a0c0 a0c1 a0c0 a0c1 = some (true, ()) := by
  have h : (List.length a0c1 + wl W_i a0c1) ≤ 4194304 := h
  unfold laws_eqRing
  simp only [decide_true, beq_self_eq_true, Bool.not_true, Bool.not_false, cond_true, cond_false, strEq_self, Option.bind_some, eq_IntS a0c1 (by show (List.length a0c1 + wl W_i a0c1) ≤ 4194304; omega)]

/-! laws.eqItem -/
theorem eq_Item (a0c0 : Int) (a0c1 : Int) (a0c2 : Int) (a0c3 : ByteArray) (h : W_iiis (a0c0, a0c1, a0c2, a0c3, ()) ≤ 4194304) : laws_eqItem a0c0 a0c1 a0c2 a0c3 a0c0 a0c1 a0c2 a0c3 = some (true, ()) := by
  have h : ByteArray.size a0c3 ≤ 4194304 := h
  unfold laws_eqItem
  simp only [decide_true, beq_self_eq_true, Bool.not_true, Bool.not_false, cond_true, cond_false, strEq_self, Option.bind_some]

/-! laws.eqItemS -/
theorem eq_ItemS (a0 : List R_iiis) (h : List.length a0 + wl W_iiis a0 ≤ 4194304) : laws_eqItemS a0 a0 = some (true, ()) := by
  have hl : loopV laws_eqItemS_r0 (a0, a0, (0 : Int), ()) = some (.inl ()) := by
    have := loop_run (round := laws_eqItemS_r0) (e := .inl ()) a0.length (fun k => (a0, a0, ((k : Nat) : Int), ())) (by
      simp only [laws_eqItemS_r0, laws_eqItemS_c0, lt_nat_irr, cond_false]) (fun k hk => by
      simp only [laws_eqItemS_r0, laws_eqItemS_c0, lt_nat_true hk, zero_le_nat, cond_true, cond_false, toNat_nat, List.getElem?_eq_getElem hk, Option.bind_some, decide_true, beq_self_eq_true, strEq_self, Bool.not_true, succ_wrap (show k < 4611686018427387904 by omega), eq_Item ((a0[k]).1) ((a0[k]).2.1) ((a0[k]).2.2.1) ((a0[k]).2.2.2.1) (Nat.le_trans (wl_mem W_iiis a0 _ (List.getElem_mem hk)) (by omega))])
    simpa using this
  unfold laws_eqItemS
  simp only [decide_true, Bool.not_true, cond_false, hl, outK_inl]

/-! laws.eqBundle -/
theorem eq_Bundle (a0c0 : Int) (a0c1 : Int) (a0c2 : Int) (a0c3 : List R_iiis) (h : W_iiiLiiisE (a0c0, a0c1, a0c2, a0c3, ()) ≤ 4194304) : laws_eqBundle a0c0 a0c1 a0c2 a0c3 a0c0 a0c1 a0c2 a0c3 = some (true, ()) := by
  have h : (List.length a0c3 + wl W_iiis a0c3) ≤ 4194304 := h
  unfold laws_eqBundle
  simp only [decide_true, beq_self_eq_true, Bool.not_true, Bool.not_false, cond_true, cond_false, strEq_self, Option.bind_some, eq_ItemS a0c3 (by show (List.length a0c3 + wl W_iiis a0c3) ≤ 4194304; omega)]

/-! laws.eqBundleS -/
theorem eq_BundleS (a0 : List R_iiiLiiisE) (h : List.length a0 + wl W_iiiLiiisE a0 ≤ 4194304) : laws_eqBundleS a0 a0 = some (true, ()) := by
  have hl : loopV laws_eqBundleS_r0 (a0, a0, (0 : Int), ()) = some (.inl ()) := by
    have := loop_run (round := laws_eqBundleS_r0) (e := .inl ()) a0.length (fun k => (a0, a0, ((k : Nat) : Int), ())) (by
      simp only [laws_eqBundleS_r0, laws_eqBundleS_c0, lt_nat_irr, cond_false]) (fun k hk => by
      simp only [laws_eqBundleS_r0, laws_eqBundleS_c0, lt_nat_true hk, zero_le_nat, cond_true, cond_false, toNat_nat, List.getElem?_eq_getElem hk, Option.bind_some, decide_true, beq_self_eq_true, strEq_self, Bool.not_true, succ_wrap (show k < 4611686018427387904 by omega), eq_Bundle ((a0[k]).1) ((a0[k]).2.1) ((a0[k]).2.2.1) ((a0[k]).2.2.2.1) (Nat.le_trans (wl_mem W_iiiLiiisE a0 _ (List.getElem_mem hk)) (by omega))])
    simpa using this
  unfold laws_eqBundleS
  simp only [decide_true, Bool.not_true, cond_false, hl, outK_inl]

end Go.TM
