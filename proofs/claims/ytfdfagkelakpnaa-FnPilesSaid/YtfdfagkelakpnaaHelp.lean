/- Sizes, copies, sameness: what the laws' own helping functions answer. -/
import Derived.Test.YtfdfagkelakpnaaF1
set_option linter.unusedSimpArgs false
set_option linter.unusedVariables false
namespace Go.TM
open Go

def Z_s (x : ByteArray × Unit) : Prop := (ByteArray.size x.1 ≤ 9223372036854775807) ∧ True
theorem z_s {x : ByteArray × Unit} (h : SzR (.cons .str .nil) x) : Z_s x := ⟨sz_str (szCons.1 h).1, trivial⟩
def W_s (x : ByteArray × Unit) : Nat := ByteArray.size x.1

/-! laws.szStringS -/
theorem sz_StringS (a0 : List (ByteArray × Unit)) {left : Int} (hz : List.length a0 ≤ 9223372036854775807 ∧ ∀ y ∈ a0, Z_s y) (h0 : 0 ≤ left) (h1 : left ≤ 1048576) : Left (laws_szStringS a0 left) (List.length a0 + wl W_s a0) left := by
  obtain ⟨hlen, hel⟩ := hz
  unfold laws_szStringS
  rw [wrap_id (by omega) (by omega)]
  by_cases hd : left - ((List.length a0 : Nat) : Int) < 0
  · rw [dec_true hd]
    exact ⟨-1, rfl, by omega, by omega⟩
  rw [dec_false hd]
  simp only [cond_false]
  obtain ⟨e, he, hq⟩ := loop_inv (round := laws_szStringS_r0) (x := (a0, left - ((List.length a0 : Nat) : Int), ((0 : Nat) : Int), ())) a0.length (fun k x => ∃ m : Int, x = (a0, m, ((k : Nat) : Int), ()) ∧ 0 ≤ m ∧ ((a0.length + wl W_s (a0.take k) : Nat) : Int) + m ≤ left)
    (fun e => match e with
      | .inl y => 0 ≤ y.1 ∧ ((a0.length + wl W_s a0 : Nat) : Int) + y.1 ≤ left
      | .inr y => y.1 = -1) (by
      rintro x ⟨m, rfl, g1, g2⟩
      refine ⟨.inl (m, ()), ?_, g1, by rw [List.take_length] at g2; exact g2⟩
      simp only [laws_szStringS_r0, laws_szStringS_c0, lt_nat_irr, cond_false]) (by
      rintro k x hk ⟨m, rfl, g1, g2⟩
      have hw := wl_take W_s a0 hk
      have hz := hel _ (List.getElem_mem hk)
      have hs : ByteArray.size a0[k].1 ≤ 9223372036854775807 := hz.1
      have hw : wl W_s (a0.take (k + 1)) = wl W_s (a0.take k) + ByteArray.size a0[k].1 := hw
      simp only [laws_szStringS_r0, laws_szStringS_c0, lt_nat_true hk, zero_le_nat, cond_true, toNat_nat, List.getElem?_eq_getElem hk, Option.bind_some, succ_wrap (show k < 4611686018427387904 by omega)]
      rw [wrap_id (by omega) (by omega)]
      by_cases hm : m - ((ByteArray.size a0[k].1 : Nat) : Int) < 0
      · rw [dec_true hm]
        exact .inl ⟨.inr (-1, ()), rfl, rfl⟩
      · rw [dec_false hm]
        exact .inr ⟨_, rfl, _, rfl, by omega, by omega⟩)
      ⟨_, rfl, by omega, by rw [List.take_zero, wl_nil]; omega⟩
  rw [show (0 : Int) = ((0 : Nat) : Int) from rfl, he]
  cases e with
  | inl y => exact ⟨y.1, rfl, by have := hq.1; omega, fun _ => hq.2⟩
  | inr y => exact ⟨y.1, rfl, by rw [show y.1 = -1 from hq]; omega, by rw [show y.1 = -1 from hq]; omega⟩

/-! laws.toStringS -/
theorem to_StringS (a0 : List (ByteArray × Unit)) (h : List.length a0 + wl W_s a0 ≤ 4194304) : laws_toStringS a0 = some (a0, ()) := by
  have hl : loopV laws_toStringS_r0 (a0, List.replicate a0.length (ByteArray.empty, ()), (0 : Int), ()) = some (.inl (a0, ())) := by
    have := loop_run (round := laws_toStringS_r0) (e := .inl (a0, ())) a0.length (fun k => (a0, a0.take k ++ List.replicate (a0.length - k) (ByteArray.empty, ()), ((k : Nat) : Int), ())) (by
      simp only [laws_toStringS_r0, laws_toStringS_c0, lt_nat_irr, cond_false, List.take_length, Nat.sub_self, List.replicate_zero, List.append_nil]) (fun k hk => by
      have hb : k < (a0.take k ++ List.replicate (a0.length - k) ((ByteArray.empty, ()) : ByteArray × Unit)).length := by simp; omega
      simp only [laws_toStringS_r0, laws_toStringS_c0, lt_nat_true hk, zero_le_nat, cond_true, toNat_nat, List.getElem?_eq_getElem hk, List.getElem?_eq_getElem hb, Option.bind_some, blt_true hb, succ_wrap (show k < 4611686018427387904 by omega)]
      rw [← copy_set a0 _ hk])
    simpa using this
  unfold laws_toStringS
  simp only [decide_true, zero_le_nat, cond_true, toNat_nat, ble_true (show a0.length * 16 ≤ lim by unfold lim; omega), hl, outK_inl]

/-! laws.eqStringS -/
theorem eq_StringS (a0 : List (ByteArray × Unit)) (h : List.length a0 + wl W_s a0 ≤ 4194304) : laws_eqStringS a0 a0 = some (true, ()) := by
  have hl : loopV laws_eqStringS_r0 (a0, a0, (0 : Int), ()) = some (.inl ()) := by
    have := loop_run (round := laws_eqStringS_r0) (e := .inl ()) a0.length (fun k => (a0, a0, ((k : Nat) : Int), ())) (by
      simp only [laws_eqStringS_r0, laws_eqStringS_c0, lt_nat_irr, cond_false]) (fun k hk => by
      simp only [laws_eqStringS_r0, laws_eqStringS_c0, lt_nat_true hk, zero_le_nat, cond_true, cond_false, toNat_nat, List.getElem?_eq_getElem hk, Option.bind_some, decide_true, beq_self_eq_true, strEq_self, Bool.not_true, succ_wrap (show k < 4611686018427387904 by omega)])
    simpa using this
  unfold laws_eqStringS
  simp only [decide_true, Bool.not_true, cond_false, hl, outK_inl]

def Z_iiLsE (x : Int × Int × (List (ByteArray × Unit)) × Unit) : Prop := (-9223372036854775808 ≤ x.1 ∧ x.1 < 9223372036854775808) ∧ (-9223372036854775808 ≤ x.2.1 ∧ x.2.1 < 9223372036854775808) ∧ (List.length x.2.2.1 ≤ 9223372036854775807 ∧ ∀ y ∈ x.2.2.1, Z_s y) ∧ True
theorem z_iiLsE {x : Int × Int × (List (ByteArray × Unit)) × Unit} (h : SzR (.cons (.int .i64) (.cons (.int .i64) (.cons (.sl (.cons .str .nil)) .nil))) x) : Z_iiLsE x := ⟨sz_int (szCons.1 h).1, sz_int (szCons.1 (szCons.1 h).2).1, ⟨sz_len (szCons.1 (szCons.1 (szCons.1 h).2).2).1, fun y hy => z_s (sz_el (szCons.1 (szCons.1 (szCons.1 h).2).2).1 y hy)⟩, trivial⟩
def W_iiLsE (x : Int × Int × (List (ByteArray × Unit)) × Unit) : Nat := (List.length x.2.2.1 + wl W_s x.2.2.1)

/-! laws.szPile -/
theorem sz_Pile (a0c0 : Int) (a0c1 : Int) (a0c2 : List (ByteArray × Unit)) {left : Int} (hz : Z_iiLsE (a0c0, a0c1, a0c2, ())) (h0 : 0 ≤ left) (h1 : left ≤ 1048576) : Left (laws_szPile a0c0 a0c1 a0c2 left) (W_iiLsE (a0c0, a0c1, a0c2, ())) left := by
  have hz : (-9223372036854775808 ≤ a0c0 ∧ a0c0 < 9223372036854775808) ∧ (-9223372036854775808 ≤ a0c1 ∧ a0c1 < 9223372036854775808) ∧ (List.length a0c2 ≤ 9223372036854775807 ∧ ∀ y ∈ a0c2, Z_s y) ∧ True := hz
  show Left _ ((List.length a0c2 + wl W_s a0c2)) left
  obtain ⟨z0, z1, z2, _⟩ := hz
  unfold laws_szPile
  obtain ⟨m2, e2, l2, w2⟩ := sz_StringS a0c2 (left := left) z2 (by omega) (by omega)
  rw [e2]
  simp only [Option.bind_some]
  by_cases hd2 : m2 < 0
  · rw [dec_true hd2]
    exact ⟨-1, rfl, by omega, by omega⟩
  rw [dec_false hd2]
  simp only [cond_false]
  have w2 := w2 (by omega)
  exact ⟨_, rfl, by omega, by intro; omega⟩

/-! laws.toPile -/
theorem to_Pile (a0c0 : Int) (a0c1 : Int) (a0c2 : List (ByteArray × Unit)) (h : W_iiLsE (a0c0, a0c1, a0c2, ()) ≤ 4194304) : laws_toPile a0c0 a0c1 a0c2 = some (a0c0, a0c1, a0c2, ()) := by
  have h : (List.length a0c2 + wl W_s a0c2) ≤ 4194304 := h
  unfold laws_toPile
  simp only [Option.bind_some, to_StringS a0c2 (by show (List.length a0c2 + wl W_s a0c2) ≤ 4194304; omega)]

/-! laws.eqPile -/
theorem eq_Pile (a0c0 : Int) (a0c1 : Int) (a0c2 : List (ByteArray × Unit)) (h : W_iiLsE (a0c0, a0c1, a0c2, ()) ≤ 4194304) : laws_eqPile a0c0 a0c1 a0c2 a0c0 a0c1 a0c2 = some (true, ()) := by
  have h : (List.length a0c2 + wl W_s a0c2) ≤ 4194304 := h
  unfold laws_eqPile
  simp only [decide_true, beq_self_eq_true, Bool.not_true, Bool.not_false, cond_true, cond_false, strEq_self, Option.bind_some, eq_StringS a0c2 (by show (List.length a0c2 + wl W_s a0c2) ≤ 4194304; omega)]

end Go.TM
