/- Sizes, copies, sameness: what the laws' own helping functions answer. -/
import Derived.Test.YtiljcjnnhkidbaaGreatAF1
set_option linter.unusedSimpArgs false
set_option linter.unusedVariables false
namespace Go.TM
open Go
def Z_i (x : Int × Unit) : Prop := (-9223372036854775808 ≤ x.1 ∧ x.1 < 9223372036854775808) ∧ True
theorem z_i {x : Int × Unit} (h : SzR T_i x) : Z_i x := ⟨sz_int (szCons.1 h).1, trivial⟩
def W_i (_ : Int × Unit) : Nat := 0
theorem sz_IntS (a0 : L_i) {left : Int} (hz : List.length a0 ≤ 9223372036854775807 ∧ ∀ y ∈ a0, Z_i y) (h0 : 0 ≤ left) (h1 : left ≤ 1048576) : Left (laws_szIntS a0 left) (List.length a0 + wl W_i a0) left := by
 obtain ⟨hlen, hel⟩ := hz; unfold laws_szIntS; rw [wrap_id (by omega) (by omega)]
 by_cases hd : left - ((List.length a0 : Nat) : Int) < 0
 · rw [dec_true hd]; exact ⟨-1, rfl, by omega, by omega⟩
 rw [dec_false hd]; simp only [cond_false]; have hw : wl W_i a0 = 0 := wl_zero _ (fun _ => rfl) _; exact ⟨_, rfl, by omega, by intro; omega⟩
def Z_iLiE (x : Int × L_i × Unit) : Prop := (-9223372036854775808 ≤ x.1 ∧ x.1 < 9223372036854775808) ∧ (List.length x.2.1 ≤ 9223372036854775807 ∧ ∀ y ∈ x.2.1, Z_i y) ∧ True
def W_iLiE (x : Int × L_i × Unit) : Nat := (List.length x.2.1 + wl W_i x.2.1)
theorem sz_Ring (a0c0 : Int) (a0c1 : L_i) {left : Int} (hz : Z_iLiE (a0c0, a0c1, ())) (h0 : 0 ≤ left) (h1 : left ≤ 1048576) : Left (laws_szRing a0c0 a0c1 left) (W_iLiE (a0c0, a0c1, ())) left := by
 have hz : (-9223372036854775808 ≤ a0c0 ∧ a0c0 < 9223372036854775808) ∧ (List.length a0c1 ≤ 9223372036854775807 ∧ ∀ y ∈ a0c1, Z_i y) ∧ True := hz; show Left _ ((List.length a0c1 + wl W_i a0c1)) left; obtain ⟨z0, z1, _⟩ := hz; unfold laws_szRing; obtain ⟨m1, e1, l1, w1⟩ := sz_IntS a0c1 (left := left) z1 (by omega) (by omega); rw [e1]; simp only [Option.bind_some]
 by_cases hd1 : m1 < 0
 · rw [dec_true hd1]; exact ⟨-1, rfl, by omega, by omega⟩
 rw [dec_false hd1]; simp only [cond_false]; have w1 := w1 (by omega); exact ⟨_, rfl, by omega, by intro; omega⟩
def Z_iiis (x : R_iiis) : Prop := (-9223372036854775808 ≤ x.1 ∧ x.1 < 9223372036854775808) ∧ (-9223372036854775808 ≤ x.2.1 ∧ x.2.1 < 9223372036854775808) ∧ (-9223372036854775808 ≤ x.2.2.1 ∧ x.2.2.1 < 9223372036854775808) ∧ (ByteArray.size x.2.2.2.1 ≤ 9223372036854775807) ∧ True
theorem z_iiis {x : R_iiis} (h : SzR T_iiis x) : Z_iiis x := ⟨sz_int (szCons.1 h).1, sz_int (szCons.1 (szCons.1 h).2).1, sz_int (szCons.1 (szCons.1 (szCons.1 h).2).2).1, sz_str (szCons.1 (szCons.1 (szCons.1 (szCons.1 h).2).2).2).1, trivial⟩
def W_iiis (x : R_iiis) : Nat := ByteArray.size x.2.2.2.1
theorem sz_Item (a0c0 : Int) (a0c1 : Int) (a0c2 : Int) (a0c3 : ByteArray) {left : Int} (hz : Z_iiis (a0c0, a0c1, a0c2, a0c3, ())) (h0 : 0 ≤ left) (h1 : left ≤ 1048576) : Left (laws_szItem a0c0 a0c1 a0c2 a0c3 left) (W_iiis (a0c0, a0c1, a0c2, a0c3, ())) left := by
 have hz : (-9223372036854775808 ≤ a0c0 ∧ a0c0 < 9223372036854775808) ∧ (-9223372036854775808 ≤ a0c1 ∧ a0c1 < 9223372036854775808) ∧ (-9223372036854775808 ≤ a0c2 ∧ a0c2 < 9223372036854775808) ∧ (ByteArray.size a0c3 ≤ 9223372036854775807) ∧ True := hz; show Left _ (ByteArray.size a0c3) left; obtain ⟨z0, z1, z2, z3, _⟩ := hz; unfold laws_szItem; rw [wrap_id (by omega) (by omega)]
 by_cases hd3 : left - ((ByteArray.size a0c3 : Nat) : Int) < 0
 · rw [dec_true hd3]; exact ⟨-1, rfl, by omega, by omega⟩
 rw [dec_false hd3]; simp only [cond_false]; exact ⟨_, rfl, by omega, by intro; omega⟩
theorem sz_ItemS (a0 : L_iiis) {left : Int} (hz : List.length a0 ≤ 9223372036854775807 ∧ ∀ y ∈ a0, Z_iiis y) (h0 : 0 ≤ left) (h1 : left ≤ 1048576) : Left (laws_szItemS a0 left) (List.length a0 + wl W_iiis a0) left := by
 obtain ⟨hlen, hel⟩ := hz; unfold laws_szItemS; rw [wrap_id (by omega) (by omega)]
 by_cases hd : left - ((List.length a0 : Nat) : Int) < 0
 · rw [dec_true hd]; exact ⟨-1, rfl, by omega, by omega⟩
 rw [dec_false hd]; simp only [cond_false]; obtain ⟨e, he, hq⟩ := loop_inv (round := laws_szItemS_r0) (x := (a0, left - ((List.length a0 : Nat) : Int), ((0 : Nat) : Int), ())) a0.length (fun k x => ∃ m : Int, x = (a0, m, ((k : Nat) : Int), ()) ∧ 0 ≤ m ∧ ((a0.length + wl W_iiis (a0.take k) : Nat) : Int) + m ≤ left)
   (fun e => match e with
     | .inl y => 0 ≤ y.1 ∧ ((a0.length + wl W_iiis a0 : Nat) : Int) + y.1 ≤ left
     | .inr y => y.1 = -1) (by
     rintro x ⟨m, rfl, g1, g2⟩
     refine ⟨.inl (m, ()), ?_, g1, by rw [List.take_length] at g2; exact g2⟩; simp only [laws_szItemS_r0, laws_szItemS_c0, lt_nat_irr, cond_false]) (by
     rintro k x hk ⟨m, rfl, g1, g2⟩
     have hw := wl_take W_iiis a0 hk; have hz := hel _ (List.getElem_mem hk); obtain ⟨m', e', l', w'⟩ := sz_Item ((a0[k]).1) ((a0[k]).2.1) ((a0[k]).2.2.1) ((a0[k]).2.2.2.1) (left := m) hz g1 (by omega); have w' : 0 ≤ m' → ((W_iiis a0[k] : Nat) : Int) + m' ≤ m := w'; simp only [laws_szItemS_r0, laws_szItemS_c0, lt_nat_true hk, zero_le_nat, cond_true, toNat_nat, List.getElem?_eq_getElem hk, Option.bind_some, e', succ_wrap (show k < 4611686018427387904 by omega)]
     by_cases hm : m' < 0
     · rw [dec_true hm]; exact .inl ⟨.inr (-1, ()), rfl, rfl⟩
     · rw [dec_false hm]; have w' := w' (by omega); exact .inr ⟨_, rfl, _, rfl, by omega, by omega⟩)
     ⟨_, rfl, by omega, by rw [List.take_zero, wl_nil]; omega⟩
 rw [show (0 : Int) = ((0 : Nat) : Int) from rfl, he]
 cases e with
 | inl y => exact ⟨y.1, rfl, by have := hq.1; omega, fun _ => hq.2⟩
 | inr y => exact ⟨y.1, rfl, by rw [show y.1 = -1 from hq]; omega, by rw [show y.1 = -1 from hq]; omega⟩
def Z_s (x : ByteArray × Unit) : Prop := (ByteArray.size x.1 ≤ 9223372036854775807) ∧ True
theorem z_s {x : ByteArray × Unit} (h : SzR T_s x) : Z_s x := ⟨sz_str (szCons.1 h).1, trivial⟩
def W_s (x : ByteArray × Unit) : Nat := ByteArray.size x.1
theorem sz_StringS (a0 : L_s) {left : Int} (hz : List.length a0 ≤ 9223372036854775807 ∧ ∀ y ∈ a0, Z_s y) (h0 : 0 ≤ left) (h1 : left ≤ 1048576) : Left (laws_szStringS a0 left) (List.length a0 + wl W_s a0) left := by
 obtain ⟨hlen, hel⟩ := hz; unfold laws_szStringS; rw [wrap_id (by omega) (by omega)]
 by_cases hd : left - ((List.length a0 : Nat) : Int) < 0
 · rw [dec_true hd]; exact ⟨-1, rfl, by omega, by omega⟩
 rw [dec_false hd]; simp only [cond_false]; obtain ⟨e, he, hq⟩ := loop_inv (round := laws_szStringS_r0) (x := (a0, left - ((List.length a0 : Nat) : Int), ((0 : Nat) : Int), ())) a0.length (fun k x => ∃ m : Int, x = (a0, m, ((k : Nat) : Int), ()) ∧ 0 ≤ m ∧ ((a0.length + wl W_s (a0.take k) : Nat) : Int) + m ≤ left)
   (fun e => match e with
     | .inl y => 0 ≤ y.1 ∧ ((a0.length + wl W_s a0 : Nat) : Int) + y.1 ≤ left
     | .inr y => y.1 = -1) (by
     rintro x ⟨m, rfl, g1, g2⟩
     refine ⟨.inl (m, ()), ?_, g1, by rw [List.take_length] at g2; exact g2⟩; simp only [laws_szStringS_r0, laws_szStringS_c0, lt_nat_irr, cond_false]) (by
     rintro k x hk ⟨m, rfl, g1, g2⟩
     have hw := wl_take W_s a0 hk; have hz := hel _ (List.getElem_mem hk); have hs : ByteArray.size a0[k].1 ≤ 9223372036854775807 := hz.1; have hw : wl W_s (a0.take (k + 1)) = wl W_s (a0.take k) + ByteArray.size a0[k].1 := hw; simp only [laws_szStringS_r0, laws_szStringS_c0, lt_nat_true hk, zero_le_nat, cond_true, toNat_nat, List.getElem?_eq_getElem hk, Option.bind_some, succ_wrap (show k < 4611686018427387904 by omega)]; rw [wrap_id (by omega) (by omega)]
     by_cases hm : m - ((ByteArray.size a0[k].1 : Nat) : Int) < 0
     · rw [dec_true hm]; exact .inl ⟨.inr (-1, ()), rfl, rfl⟩
     · rw [dec_false hm]; exact .inr ⟨_, rfl, _, rfl, by omega, by omega⟩)
     ⟨_, rfl, by omega, by rw [List.take_zero, wl_nil]; omega⟩
 rw [show (0 : Int) = ((0 : Nat) : Int) from rfl, he]
 cases e with
 | inl y => exact ⟨y.1, rfl, by have := hq.1; omega, fun _ => hq.2⟩
 | inr y => exact ⟨y.1, rfl, by rw [show y.1 = -1 from hq]; omega, by rw [show y.1 = -1 from hq]; omega⟩
def Z_iiiiiLiE (x : R_iiiiiLiE) : Prop := (-9223372036854775808 ≤ x.1 ∧ x.1 < 9223372036854775808) ∧ (-9223372036854775808 ≤ x.2.1 ∧ x.2.1 < 9223372036854775808) ∧ (-9223372036854775808 ≤ x.2.2.1 ∧ x.2.2.1 < 9223372036854775808) ∧ (-9223372036854775808 ≤ x.2.2.2.1 ∧ x.2.2.2.1 < 9223372036854775808) ∧ (-9223372036854775808 ≤ x.2.2.2.2.1 ∧ x.2.2.2.2.1 < 9223372036854775808) ∧ (List.length x.2.2.2.2.2.1 ≤ 9223372036854775807 ∧ ∀ y ∈ x.2.2.2.2.2.1, Z_i y) ∧ True
def W_iiiiiLiE (x : R_iiiiiLiE) : Nat := (List.length x.2.2.2.2.2.1 + wl W_i x.2.2.2.2.2.1)
theorem sz_Token (a0c0 : Int) (a0c1 : Int) (a0c2 : Int) (a0c3 : Int) (a0c4 : Int) (a0c5 : L_i) {left : Int} (hz : Z_iiiiiLiE (a0c0, a0c1, a0c2, a0c3, a0c4, a0c5, ())) (h0 : 0 ≤ left) (h1 : left ≤ 1048576) : Left (laws_szToken a0c0 a0c1 a0c2 a0c3 a0c4 a0c5 left) (W_iiiiiLiE (a0c0, a0c1, a0c2, a0c3, a0c4, a0c5, ())) left := by
 have hz : (-9223372036854775808 ≤ a0c0 ∧ a0c0 < 9223372036854775808) ∧ (-9223372036854775808 ≤ a0c1 ∧ a0c1 < 9223372036854775808) ∧ (-9223372036854775808 ≤ a0c2 ∧ a0c2 < 9223372036854775808) ∧ (-9223372036854775808 ≤ a0c3 ∧ a0c3 < 9223372036854775808) ∧ (-9223372036854775808 ≤ a0c4 ∧ a0c4 < 9223372036854775808) ∧ (List.length a0c5 ≤ 9223372036854775807 ∧ ∀ y ∈ a0c5, Z_i y) ∧ True := hz; show Left _ ((List.length a0c5 + wl W_i a0c5)) left; obtain ⟨z0, z1, z2, z3, z4, z5, _⟩ := hz; unfold laws_szToken; obtain ⟨m5, e5, l5, w5⟩ := sz_IntS a0c5 (left := left) z5 (by omega) (by omega); rw [e5]; simp only [Option.bind_some]
 by_cases hd5 : m5 < 0
 · rw [dec_true hd5]; exact ⟨-1, rfl, by omega, by omega⟩
 rw [dec_false hd5]; simp only [cond_false]; have w5 := w5 (by omega); exact ⟨_, rfl, by omega, by intro; omega⟩
def Z_iiLiELiiisELiELsEiiiiiiiiiLiE (x : R_iiLiELiiisELiELsEiiiiiiiiiLiE) : Prop := (-9223372036854775808 ≤ x.1 ∧ x.1 < 9223372036854775808) ∧ (-9223372036854775808 ≤ x.2.1 ∧ x.2.1 < 9223372036854775808) ∧ (List.length x.2.2.1 ≤ 9223372036854775807 ∧ ∀ y ∈ x.2.2.1, Z_i y) ∧ (List.length x.2.2.2.1 ≤ 9223372036854775807 ∧ ∀ y ∈ x.2.2.2.1, Z_iiis y) ∧ (List.length x.2.2.2.2.1 ≤ 9223372036854775807 ∧ ∀ y ∈ x.2.2.2.2.1, Z_i y) ∧ (List.length x.2.2.2.2.2.1 ≤ 9223372036854775807 ∧ ∀ y ∈ x.2.2.2.2.2.1, Z_s y) ∧ (-9223372036854775808 ≤ x.2.2.2.2.2.2.1 ∧ x.2.2.2.2.2.2.1 < 9223372036854775808) ∧ (-9223372036854775808 ≤ x.2.2.2.2.2.2.2.1 ∧ x.2.2.2.2.2.2.2.1 < 9223372036854775808) ∧ (-9223372036854775808 ≤ x.2.2.2.2.2.2.2.2.1 ∧ x.2.2.2.2.2.2.2.2.1 < 9223372036854775808) ∧ (-9223372036854775808 ≤ x.2.2.2.2.2.2.2.2.2.1 ∧ x.2.2.2.2.2.2.2.2.2.1 < 9223372036854775808) ∧ (-9223372036854775808 ≤ x.2.2.2.2.2.2.2.2.2.2.1 ∧ x.2.2.2.2.2.2.2.2.2.2.1 < 9223372036854775808) ∧ (-9223372036854775808 ≤ x.2.2.2.2.2.2.2.2.2.2.2.1 ∧ x.2.2.2.2.2.2.2.2.2.2.2.1 < 9223372036854775808) ∧ (-9223372036854775808 ≤ x.2.2.2.2.2.2.2.2.2.2.2.2.1 ∧ x.2.2.2.2.2.2.2.2.2.2.2.2.1 < 9223372036854775808) ∧ (-9223372036854775808 ≤ x.2.2.2.2.2.2.2.2.2.2.2.2.2.1 ∧ x.2.2.2.2.2.2.2.2.2.2.2.2.2.1 < 9223372036854775808) ∧ (-9223372036854775808 ≤ x.2.2.2.2.2.2.2.2.2.2.2.2.2.2.1 ∧ x.2.2.2.2.2.2.2.2.2.2.2.2.2.2.1 < 9223372036854775808) ∧ (List.length x.2.2.2.2.2.2.2.2.2.2.2.2.2.2.2.1 ≤ 9223372036854775807 ∧ ∀ y ∈ x.2.2.2.2.2.2.2.2.2.2.2.2.2.2.2.1, Z_i y) ∧ True
def W_iiLiELiiisELiELsEiiiiiiiiiLiE (x : R_iiLiELiiisELiELsEiiiiiiiiiLiE) : Nat := (List.length x.2.2.1 + wl W_i x.2.2.1) + (List.length x.2.2.2.1 + wl W_iiis x.2.2.2.1) + (List.length x.2.2.2.2.1 + wl W_i x.2.2.2.2.1) + (List.length x.2.2.2.2.2.1 + wl W_s x.2.2.2.2.2.1) + (List.length x.2.2.2.2.2.2.2.2.2.2.2.2.2.2.2.1 + wl W_i x.2.2.2.2.2.2.2.2.2.2.2.2.2.2.2.1)
theorem sz_Mate (a0c0 : Int) (a0c1 : Int) (a0c2 : L_i) (a0c3 : L_iiis) (a0c4 : L_i) (a0c5 : L_s) (a0c6 : Int) (a0c7 : Int) (a0c8 : Int) (a0c9 : Int) (a0c10 : Int) (a0c11 : Int) (a0c12 : Int) (a0c13 : Int) (a0c14 : Int) (a0c15 : L_i) {left : Int} (hz : Z_iiLiELiiisELiELsEiiiiiiiiiLiE (a0c0, a0c1, a0c2, a0c3, a0c4, a0c5, a0c6, a0c7, a0c8, a0c9, a0c10, a0c11, a0c12, a0c13, a0c14, a0c15, ())) (h0 : 0 ≤ left) (h1 : left ≤ 1048576) : Left (laws_szMate a0c0 a0c1 a0c2 a0c3 a0c4 a0c5 a0c6 a0c7 a0c8 a0c9 a0c10 a0c11 a0c12 a0c13 a0c14 a0c15 left) (W_iiLiELiiisELiELsEiiiiiiiiiLiE (a0c0, a0c1, a0c2, a0c3, a0c4, a0c5, a0c6, a0c7, a0c8, a0c9, a0c10, a0c11, a0c12, a0c13, a0c14, a0c15, ())) left := by
 have hz : (-9223372036854775808 ≤ a0c0 ∧ a0c0 < 9223372036854775808) ∧ (-9223372036854775808 ≤ a0c1 ∧ a0c1 < 9223372036854775808) ∧ (List.length a0c2 ≤ 9223372036854775807 ∧ ∀ y ∈ a0c2, Z_i y) ∧ (List.length a0c3 ≤ 9223372036854775807 ∧ ∀ y ∈ a0c3, Z_iiis y) ∧ (List.length a0c4 ≤ 9223372036854775807 ∧ ∀ y ∈ a0c4, Z_i y) ∧ (List.length a0c5 ≤ 9223372036854775807 ∧ ∀ y ∈ a0c5, Z_s y) ∧ (-9223372036854775808 ≤ a0c6 ∧ a0c6 < 9223372036854775808) ∧ (-9223372036854775808 ≤ a0c7 ∧ a0c7 < 9223372036854775808) ∧ (-9223372036854775808 ≤ a0c8 ∧ a0c8 < 9223372036854775808) ∧ (-9223372036854775808 ≤ a0c9 ∧ a0c9 < 9223372036854775808) ∧ (-9223372036854775808 ≤ a0c10 ∧ a0c10 < 9223372036854775808) ∧ (-9223372036854775808 ≤ a0c11 ∧ a0c11 < 9223372036854775808) ∧ (-9223372036854775808 ≤ a0c12 ∧ a0c12 < 9223372036854775808) ∧ (-9223372036854775808 ≤ a0c13 ∧ a0c13 < 9223372036854775808) ∧ (-9223372036854775808 ≤ a0c14 ∧ a0c14 < 9223372036854775808) ∧ (List.length a0c15 ≤ 9223372036854775807 ∧ ∀ y ∈ a0c15, Z_i y) ∧ True := hz; show Left _ ((List.length a0c2 + wl W_i a0c2) + (List.length a0c3 + wl W_iiis a0c3) + (List.length a0c4 + wl W_i a0c4) + (List.length a0c5 + wl W_s a0c5) + (List.length a0c15 + wl W_i a0c15)) left; obtain ⟨z0, z1, z2, z3, z4, z5, z6, z7, z8, z9, z10, z11, z12, z13, z14, z15, _⟩ := hz; unfold laws_szMate; obtain ⟨m1, e1, l1, w1⟩ := sz_Ring a0c1 a0c2 (left := left) ⟨z1, z2, trivial⟩ (by omega) (by omega); have w1 : 0 ≤ m1 → (((List.length a0c2 + wl W_i a0c2) : Nat) : Int) + m1 ≤ left := w1; rw [e1]; simp only [Option.bind_some]
 by_cases hd1 : m1 < 0
 · rw [dec_true hd1]; exact ⟨-1, rfl, by omega, by omega⟩
 rw [dec_false hd1]; simp only [cond_false]; have w1 := w1 (by omega); obtain ⟨m3, e3, l3, w3⟩ := sz_ItemS a0c3 (left := m1) z3 (by omega) (by omega); rw [e3]; simp only [Option.bind_some]
 by_cases hd3 : m3 < 0
 · rw [dec_true hd3]; exact ⟨-1, rfl, by omega, by omega⟩
 rw [dec_false hd3]; simp only [cond_false]; have w3 := w3 (by omega); obtain ⟨m4, e4, l4, w4⟩ := sz_IntS a0c4 (left := m3) z4 (by omega) (by omega); rw [e4]; simp only [Option.bind_some]
 by_cases hd4 : m4 < 0
 · rw [dec_true hd4]; exact ⟨-1, rfl, by omega, by omega⟩
 rw [dec_false hd4]; simp only [cond_false]; have w4 := w4 (by omega); obtain ⟨m5, e5, l5, w5⟩ := sz_StringS a0c5 (left := m4) z5 (by omega) (by omega); rw [e5]; simp only [Option.bind_some]
 by_cases hd5 : m5 < 0
 · rw [dec_true hd5]; exact ⟨-1, rfl, by omega, by omega⟩
 rw [dec_false hd5]; simp only [cond_false]; have w5 := w5 (by omega); obtain ⟨m10, e10, l10, w10⟩ := sz_Token a0c10 a0c11 a0c12 a0c13 a0c14 a0c15 (left := m5) ⟨z10, z11, z12, z13, z14, z15, trivial⟩ (by omega) (by omega); have w10 : 0 ≤ m10 → (((List.length a0c15 + wl W_i a0c15) : Nat) : Int) + m10 ≤ m5 := w10; rw [e10]; simp only [Option.bind_some]
 by_cases hd10 : m10 < 0
 · rw [dec_true hd10]; exact ⟨-1, rfl, by omega, by omega⟩
 rw [dec_false hd10]; simp only [cond_false]; have w10 := w10 (by omega); exact ⟨_, rfl, by omega, by intro; omega⟩
def Z_iiiLiiisE (x : R_iiiLiiisE) : Prop := (-9223372036854775808 ≤ x.1 ∧ x.1 < 9223372036854775808) ∧ (-9223372036854775808 ≤ x.2.1 ∧ x.2.1 < 9223372036854775808) ∧ (-9223372036854775808 ≤ x.2.2.1 ∧ x.2.2.1 < 9223372036854775808) ∧ (List.length x.2.2.2.1 ≤ 9223372036854775807 ∧ ∀ y ∈ x.2.2.2.1, Z_iiis y) ∧ True
theorem z_iiiLiiisE {x : R_iiiLiiisE} (h : SzR T_iiiLiiisE x) : Z_iiiLiiisE x := ⟨sz_int (szCons.1 h).1, sz_int (szCons.1 (szCons.1 h).2).1, sz_int (szCons.1 (szCons.1 (szCons.1 h).2).2).1, ⟨sz_len (szCons.1 (szCons.1 (szCons.1 (szCons.1 h).2).2).2).1, fun y hy => z_iiis (sz_el (szCons.1 (szCons.1 (szCons.1 (szCons.1 h).2).2).2).1 y hy)⟩, trivial⟩
def W_iiiLiiisE (x : R_iiiLiiisE) : Nat := (List.length x.2.2.2.1 + wl W_iiis x.2.2.2.1)
theorem sz_Bundle (a0c0 : Int) (a0c1 : Int) (a0c2 : Int) (a0c3 : L_iiis) {left : Int} (hz : Z_iiiLiiisE (a0c0, a0c1, a0c2, a0c3, ())) (h0 : 0 ≤ left) (h1 : left ≤ 1048576) : Left (laws_szBundle a0c0 a0c1 a0c2 a0c3 left) (W_iiiLiiisE (a0c0, a0c1, a0c2, a0c3, ())) left := by
 have hz : (-9223372036854775808 ≤ a0c0 ∧ a0c0 < 9223372036854775808) ∧ (-9223372036854775808 ≤ a0c1 ∧ a0c1 < 9223372036854775808) ∧ (-9223372036854775808 ≤ a0c2 ∧ a0c2 < 9223372036854775808) ∧ (List.length a0c3 ≤ 9223372036854775807 ∧ ∀ y ∈ a0c3, Z_iiis y) ∧ True := hz; show Left _ ((List.length a0c3 + wl W_iiis a0c3)) left; obtain ⟨z0, z1, z2, z3, _⟩ := hz; unfold laws_szBundle; obtain ⟨m3, e3, l3, w3⟩ := sz_ItemS a0c3 (left := left) z3 (by omega) (by omega); rw [e3]; simp only [Option.bind_some]
 by_cases hd3 : m3 < 0
 · rw [dec_true hd3]; exact ⟨-1, rfl, by omega, by omega⟩
 rw [dec_false hd3]; simp only [cond_false]; have w3 := w3 (by omega); exact ⟨_, rfl, by omega, by intro; omega⟩
theorem sz_BundleS (a0 : L_iiiLiiisE) {left : Int} (hz : List.length a0 ≤ 9223372036854775807 ∧ ∀ y ∈ a0, Z_iiiLiiisE y) (h0 : 0 ≤ left) (h1 : left ≤ 1048576) : Left (laws_szBundleS a0 left) (List.length a0 + wl W_iiiLiiisE a0) left := by
 obtain ⟨hlen, hel⟩ := hz; unfold laws_szBundleS; rw [wrap_id (by omega) (by omega)]
 by_cases hd : left - ((List.length a0 : Nat) : Int) < 0
 · rw [dec_true hd]; exact ⟨-1, rfl, by omega, by omega⟩
 rw [dec_false hd]; simp only [cond_false]; obtain ⟨e, he, hq⟩ := loop_inv (round := laws_szBundleS_r0) (x := (a0, left - ((List.length a0 : Nat) : Int), ((0 : Nat) : Int), ())) a0.length (fun k x => ∃ m : Int, x = (a0, m, ((k : Nat) : Int), ()) ∧ 0 ≤ m ∧ ((a0.length + wl W_iiiLiiisE (a0.take k) : Nat) : Int) + m ≤ left)
   (fun e => match e with
     | .inl y => 0 ≤ y.1 ∧ ((a0.length + wl W_iiiLiiisE a0 : Nat) : Int) + y.1 ≤ left
     | .inr y => y.1 = -1) (by
     rintro x ⟨m, rfl, g1, g2⟩
     refine ⟨.inl (m, ()), ?_, g1, by rw [List.take_length] at g2; exact g2⟩; simp only [laws_szBundleS_r0, laws_szBundleS_c0, lt_nat_irr, cond_false]) (by
     rintro k x hk ⟨m, rfl, g1, g2⟩
     have hw := wl_take W_iiiLiiisE a0 hk; have hz := hel _ (List.getElem_mem hk); obtain ⟨m', e', l', w'⟩ := sz_Bundle ((a0[k]).1) ((a0[k]).2.1) ((a0[k]).2.2.1) ((a0[k]).2.2.2.1) (left := m) hz g1 (by omega); have w' : 0 ≤ m' → ((W_iiiLiiisE a0[k] : Nat) : Int) + m' ≤ m := w'; simp only [laws_szBundleS_r0, laws_szBundleS_c0, lt_nat_true hk, zero_le_nat, cond_true, toNat_nat, List.getElem?_eq_getElem hk, Option.bind_some, e', succ_wrap (show k < 4611686018427387904 by omega)]
     by_cases hm : m' < 0
     · rw [dec_true hm]; exact .inl ⟨.inr (-1, ()), rfl, rfl⟩
     · rw [dec_false hm]; have w' := w' (by omega); exact .inr ⟨_, rfl, _, rfl, by omega, by omega⟩)
     ⟨_, rfl, by omega, by rw [List.take_zero, wl_nil]; omega⟩
 rw [show (0 : Int) = ((0 : Nat) : Int) from rfl, he]
 cases e with
 | inl y => exact ⟨y.1, rfl, by have := hq.1; omega, fun _ => hq.2⟩
 | inr y => exact ⟨y.1, rfl, by rw [show y.1 = -1 from hq]; omega, by rw [show y.1 = -1 from hq]; omega⟩
def Z_iiLiEiiisLiE (x : R_iiLiEiiisLiE) : Prop := (-9223372036854775808 ≤ x.1 ∧ x.1 < 9223372036854775808) ∧ (-9223372036854775808 ≤ x.2.1 ∧ x.2.1 < 9223372036854775808) ∧ (List.length x.2.2.1 ≤ 9223372036854775807 ∧ ∀ y ∈ x.2.2.1, Z_i y) ∧ (-9223372036854775808 ≤ x.2.2.2.1 ∧ x.2.2.2.1 < 9223372036854775808) ∧ (-9223372036854775808 ≤ x.2.2.2.2.1 ∧ x.2.2.2.2.1 < 9223372036854775808) ∧ (-9223372036854775808 ≤ x.2.2.2.2.2.1 ∧ x.2.2.2.2.2.1 < 9223372036854775808) ∧ (ByteArray.size x.2.2.2.2.2.2.1 ≤ 9223372036854775807) ∧ (List.length x.2.2.2.2.2.2.2.1 ≤ 9223372036854775807 ∧ ∀ y ∈ x.2.2.2.2.2.2.2.1, Z_i y) ∧ True
theorem z_iiLiEiiisLiE {x : R_iiLiEiiisLiE} (h : SzR T_iiLiEiiisLiE x) : Z_iiLiEiiisLiE x := ⟨sz_int (szCons.1 h).1, sz_int (szCons.1 (szCons.1 h).2).1, ⟨sz_len (szCons.1 (szCons.1 (szCons.1 h).2).2).1, fun y hy => z_i (sz_el (szCons.1 (szCons.1 (szCons.1 h).2).2).1 y hy)⟩, sz_int (szCons.1 (szCons.1 (szCons.1 (szCons.1 h).2).2).2).1, sz_int (szCons.1 (szCons.1 (szCons.1 (szCons.1 (szCons.1 h).2).2).2).2).1, sz_int (szCons.1 (szCons.1 (szCons.1 (szCons.1 (szCons.1 (szCons.1 h).2).2).2).2).2).1, sz_str (szCons.1 (szCons.1 (szCons.1 (szCons.1 (szCons.1 (szCons.1 (szCons.1 h).2).2).2).2).2).2).1, ⟨sz_len (szCons.1 (szCons.1 (szCons.1 (szCons.1 (szCons.1 (szCons.1 (szCons.1 (szCons.1 h).2).2).2).2).2).2).2).1, fun y hy => z_i (sz_el (szCons.1 (szCons.1 (szCons.1 (szCons.1 (szCons.1 (szCons.1 (szCons.1 (szCons.1 h).2).2).2).2).2).2).2).1 y hy)⟩, trivial⟩
def W_iiLiEiiisLiE (x : R_iiLiEiiisLiE) : Nat := (List.length x.2.2.1 + wl W_i x.2.2.1) + ByteArray.size x.2.2.2.2.2.2.1 + (List.length x.2.2.2.2.2.2.2.1 + wl W_i x.2.2.2.2.2.2.2.1)
theorem sz_Event (a0c0 : Int) (a0c1 : Int) (a0c2 : L_i) (a0c3 : Int) (a0c4 : Int) (a0c5 : Int) (a0c6 : ByteArray) (a0c7 : L_i) {left : Int} (hz : Z_iiLiEiiisLiE (a0c0, a0c1, a0c2, a0c3, a0c4, a0c5, a0c6, a0c7, ())) (h0 : 0 ≤ left) (h1 : left ≤ 1048576) : Left (laws_szEvent a0c0 a0c1 a0c2 a0c3 a0c4 a0c5 a0c6 a0c7 left) (W_iiLiEiiisLiE (a0c0, a0c1, a0c2, a0c3, a0c4, a0c5, a0c6, a0c7, ())) left := by
 have hz : (-9223372036854775808 ≤ a0c0 ∧ a0c0 < 9223372036854775808) ∧ (-9223372036854775808 ≤ a0c1 ∧ a0c1 < 9223372036854775808) ∧ (List.length a0c2 ≤ 9223372036854775807 ∧ ∀ y ∈ a0c2, Z_i y) ∧ (-9223372036854775808 ≤ a0c3 ∧ a0c3 < 9223372036854775808) ∧ (-9223372036854775808 ≤ a0c4 ∧ a0c4 < 9223372036854775808) ∧ (-9223372036854775808 ≤ a0c5 ∧ a0c5 < 9223372036854775808) ∧ (ByteArray.size a0c6 ≤ 9223372036854775807) ∧ (List.length a0c7 ≤ 9223372036854775807 ∧ ∀ y ∈ a0c7, Z_i y) ∧ True := hz; show Left _ ((List.length a0c2 + wl W_i a0c2) + ByteArray.size a0c6 + (List.length a0c7 + wl W_i a0c7)) left; obtain ⟨z0, z1, z2, z3, z4, z5, z6, z7, _⟩ := hz; unfold laws_szEvent; obtain ⟨m1, e1, l1, w1⟩ := sz_Ring a0c1 a0c2 (left := left) ⟨z1, z2, trivial⟩ (by omega) (by omega); have w1 : 0 ≤ m1 → (((List.length a0c2 + wl W_i a0c2) : Nat) : Int) + m1 ≤ left := w1; rw [e1]; simp only [Option.bind_some]
 by_cases hd1 : m1 < 0
 · rw [dec_true hd1]; exact ⟨-1, rfl, by omega, by omega⟩
 rw [dec_false hd1]; simp only [cond_false]; have w1 := w1 (by omega); obtain ⟨m3, e3, l3, w3⟩ := sz_Item a0c3 a0c4 a0c5 a0c6 (left := m1) ⟨z3, z4, z5, z6, trivial⟩ (by omega) (by omega); have w3 : 0 ≤ m3 → ((ByteArray.size a0c6 : Nat) : Int) + m3 ≤ m1 := w3; rw [e3]; simp only [Option.bind_some]
 by_cases hd3 : m3 < 0
 · rw [dec_true hd3]; exact ⟨-1, rfl, by omega, by omega⟩
 rw [dec_false hd3]; simp only [cond_false]; have w3 := w3 (by omega); obtain ⟨m7, e7, l7, w7⟩ := sz_IntS a0c7 (left := m3) z7 (by omega) (by omega); rw [e7]; simp only [Option.bind_some]
 by_cases hd7 : m7 < 0
 · rw [dec_true hd7]; exact ⟨-1, rfl, by omega, by omega⟩
 rw [dec_false hd7]; simp only [cond_false]; have w7 := w7 (by omega); exact ⟨_, rfl, by omega, by intro; omega⟩
theorem sz_EventS (a0 : L_iiLiEiiisLiE) {left : Int} (hz : List.length a0 ≤ 9223372036854775807 ∧ ∀ y ∈ a0, Z_iiLiEiiisLiE y) (h0 : 0 ≤ left) (h1 : left ≤ 1048576) : Left (laws_szEventS a0 left) (List.length a0 + wl W_iiLiEiiisLiE a0) left := by
 obtain ⟨hlen, hel⟩ := hz; unfold laws_szEventS; rw [wrap_id (by omega) (by omega)]
 by_cases hd : left - ((List.length a0 : Nat) : Int) < 0
 · rw [dec_true hd]; exact ⟨-1, rfl, by omega, by omega⟩
 rw [dec_false hd]; simp only [cond_false]; obtain ⟨e, he, hq⟩ := loop_inv (round := laws_szEventS_r0) (x := (a0, left - ((List.length a0 : Nat) : Int), ((0 : Nat) : Int), ())) a0.length (fun k x => ∃ m : Int, x = (a0, m, ((k : Nat) : Int), ()) ∧ 0 ≤ m ∧ ((a0.length + wl W_iiLiEiiisLiE (a0.take k) : Nat) : Int) + m ≤ left)
   (fun e => match e with
     | .inl y => 0 ≤ y.1 ∧ ((a0.length + wl W_iiLiEiiisLiE a0 : Nat) : Int) + y.1 ≤ left
     | .inr y => y.1 = -1) (by
     rintro x ⟨m, rfl, g1, g2⟩
     refine ⟨.inl (m, ()), ?_, g1, by rw [List.take_length] at g2; exact g2⟩; simp only [laws_szEventS_r0, laws_szEventS_c0, lt_nat_irr, cond_false]) (by
     rintro k x hk ⟨m, rfl, g1, g2⟩
     have hw := wl_take W_iiLiEiiisLiE a0 hk; have hz := hel _ (List.getElem_mem hk); obtain ⟨m', e', l', w'⟩ := sz_Event ((a0[k]).1) ((a0[k]).2.1) ((a0[k]).2.2.1) ((a0[k]).2.2.2.1) ((a0[k]).2.2.2.2.1) ((a0[k]).2.2.2.2.2.1) ((a0[k]).2.2.2.2.2.2.1) ((a0[k]).2.2.2.2.2.2.2.1) (left := m) hz g1 (by omega); have w' : 0 ≤ m' → ((W_iiLiEiiisLiE a0[k] : Nat) : Int) + m' ≤ m := w'; simp only [laws_szEventS_r0, laws_szEventS_c0, lt_nat_true hk, zero_le_nat, cond_true, toNat_nat, List.getElem?_eq_getElem hk, Option.bind_some, e', succ_wrap (show k < 4611686018427387904 by omega)]
     by_cases hm : m' < 0
     · rw [dec_true hm]; exact .inl ⟨.inr (-1, ()), rfl, rfl⟩
     · rw [dec_false hm]; have w' := w' (by omega); exact .inr ⟨_, rfl, _, rfl, by omega, by omega⟩)
     ⟨_, rfl, by omega, by rw [List.take_zero, wl_nil]; omega⟩
 rw [show (0 : Int) = ((0 : Nat) : Int) from rfl, he]
 cases e with
 | inl y => exact ⟨y.1, rfl, by have := hq.1; omega, fun _ => hq.2⟩
 | inr y => exact ⟨y.1, rfl, by rw [show y.1 = -1 from hq]; omega, by rw [show y.1 = -1 from hq]; omega⟩
def Z_ibiiLiELiiisELiELsEiiiiiiiiiLiEiiiLiELiiiLiiisEELiiLiEiiisLiEE (x : R_ibiiLiELiiisELiELsEiiiiiiiiiLiEiiiLiELiiiLiiisEELiiLiEiiisLiEE) : Prop := (-9223372036854775808 ≤ x.1 ∧ x.1 < 9223372036854775808) ∧ (True) ∧ (-9223372036854775808 ≤ x.2.2.1 ∧ x.2.2.1 < 9223372036854775808) ∧ (-9223372036854775808 ≤ x.2.2.2.1 ∧ x.2.2.2.1 < 9223372036854775808) ∧ (List.length x.2.2.2.2.1 ≤ 9223372036854775807 ∧ ∀ y ∈ x.2.2.2.2.1, Z_i y) ∧ (List.length x.2.2.2.2.2.1 ≤ 9223372036854775807 ∧ ∀ y ∈ x.2.2.2.2.2.1, Z_iiis y) ∧ (List.length x.2.2.2.2.2.2.1 ≤ 9223372036854775807 ∧ ∀ y ∈ x.2.2.2.2.2.2.1, Z_i y) ∧ (List.length x.2.2.2.2.2.2.2.1 ≤ 9223372036854775807 ∧ ∀ y ∈ x.2.2.2.2.2.2.2.1, Z_s y) ∧ (-9223372036854775808 ≤ x.2.2.2.2.2.2.2.2.1 ∧ x.2.2.2.2.2.2.2.2.1 < 9223372036854775808) ∧ (-9223372036854775808 ≤ x.2.2.2.2.2.2.2.2.2.1 ∧ x.2.2.2.2.2.2.2.2.2.1 < 9223372036854775808) ∧ (-9223372036854775808 ≤ x.2.2.2.2.2.2.2.2.2.2.1 ∧ x.2.2.2.2.2.2.2.2.2.2.1 < 9223372036854775808) ∧ (-9223372036854775808 ≤ x.2.2.2.2.2.2.2.2.2.2.2.1 ∧ x.2.2.2.2.2.2.2.2.2.2.2.1 < 9223372036854775808) ∧ (-9223372036854775808 ≤ x.2.2.2.2.2.2.2.2.2.2.2.2.1 ∧ x.2.2.2.2.2.2.2.2.2.2.2.2.1 < 9223372036854775808) ∧ (-9223372036854775808 ≤ x.2.2.2.2.2.2.2.2.2.2.2.2.2.1 ∧ x.2.2.2.2.2.2.2.2.2.2.2.2.2.1 < 9223372036854775808) ∧ (-9223372036854775808 ≤ x.2.2.2.2.2.2.2.2.2.2.2.2.2.2.1 ∧ x.2.2.2.2.2.2.2.2.2.2.2.2.2.2.1 < 9223372036854775808) ∧ (-9223372036854775808 ≤ x.2.2.2.2.2.2.2.2.2.2.2.2.2.2.2.1 ∧ x.2.2.2.2.2.2.2.2.2.2.2.2.2.2.2.1 < 9223372036854775808) ∧ (-9223372036854775808 ≤ x.2.2.2.2.2.2.2.2.2.2.2.2.2.2.2.2.1 ∧ x.2.2.2.2.2.2.2.2.2.2.2.2.2.2.2.2.1 < 9223372036854775808) ∧ (List.length x.2.2.2.2.2.2.2.2.2.2.2.2.2.2.2.2.2.1 ≤ 9223372036854775807 ∧ ∀ y ∈ x.2.2.2.2.2.2.2.2.2.2.2.2.2.2.2.2.2.1, Z_i y) ∧ (-9223372036854775808 ≤ x.2.2.2.2.2.2.2.2.2.2.2.2.2.2.2.2.2.2.1 ∧ x.2.2.2.2.2.2.2.2.2.2.2.2.2.2.2.2.2.2.1 < 9223372036854775808) ∧ (-9223372036854775808 ≤ x.2.2.2.2.2.2.2.2.2.2.2.2.2.2.2.2.2.2.2.1 ∧ x.2.2.2.2.2.2.2.2.2.2.2.2.2.2.2.2.2.2.2.1 < 9223372036854775808) ∧ (-9223372036854775808 ≤ x.2.2.2.2.2.2.2.2.2.2.2.2.2.2.2.2.2.2.2.2.1 ∧ x.2.2.2.2.2.2.2.2.2.2.2.2.2.2.2.2.2.2.2.2.1 < 9223372036854775808) ∧ (List.length x.2.2.2.2.2.2.2.2.2.2.2.2.2.2.2.2.2.2.2.2.2.1 ≤ 9223372036854775807 ∧ ∀ y ∈ x.2.2.2.2.2.2.2.2.2.2.2.2.2.2.2.2.2.2.2.2.2.1, Z_i y) ∧ (List.length x.2.2.2.2.2.2.2.2.2.2.2.2.2.2.2.2.2.2.2.2.2.2.1 ≤ 9223372036854775807 ∧ ∀ y ∈ x.2.2.2.2.2.2.2.2.2.2.2.2.2.2.2.2.2.2.2.2.2.2.1, Z_iiiLiiisE y) ∧ (List.length x.2.2.2.2.2.2.2.2.2.2.2.2.2.2.2.2.2.2.2.2.2.2.2.1 ≤ 9223372036854775807 ∧ ∀ y ∈ x.2.2.2.2.2.2.2.2.2.2.2.2.2.2.2.2.2.2.2.2.2.2.2.1, Z_iiLiEiiisLiE y) ∧ True
def W_ibiiLiELiiisELiELsEiiiiiiiiiLiEiiiLiELiiiLiiisEELiiLiEiiisLiEE (x : R_ibiiLiELiiisELiELsEiiiiiiiiiLiEiiiLiELiiiLiiisEELiiLiEiiisLiEE) : Nat := (List.length x.2.2.2.2.1 + wl W_i x.2.2.2.2.1) + (List.length x.2.2.2.2.2.1 + wl W_iiis x.2.2.2.2.2.1) + (List.length x.2.2.2.2.2.2.1 + wl W_i x.2.2.2.2.2.2.1) + (List.length x.2.2.2.2.2.2.2.1 + wl W_s x.2.2.2.2.2.2.2.1) + (List.length x.2.2.2.2.2.2.2.2.2.2.2.2.2.2.2.2.2.1 + wl W_i x.2.2.2.2.2.2.2.2.2.2.2.2.2.2.2.2.2.1) + (List.length x.2.2.2.2.2.2.2.2.2.2.2.2.2.2.2.2.2.2.2.2.2.1 + wl W_i x.2.2.2.2.2.2.2.2.2.2.2.2.2.2.2.2.2.2.2.2.2.1) + (List.length x.2.2.2.2.2.2.2.2.2.2.2.2.2.2.2.2.2.2.2.2.2.2.1 + wl W_iiiLiiisE x.2.2.2.2.2.2.2.2.2.2.2.2.2.2.2.2.2.2.2.2.2.2.1) + (List.length x.2.2.2.2.2.2.2.2.2.2.2.2.2.2.2.2.2.2.2.2.2.2.2.1 + wl W_iiLiEiiisLiE x.2.2.2.2.2.2.2.2.2.2.2.2.2.2.2.2.2.2.2.2.2.2.2.1)
theorem sz_Daemon (a0c0 : Int) (a0c1 : Bool) (a0c2 : Int) (a0c3 : Int) (a0c4 : L_i) (a0c5 : L_iiis) (a0c6 : L_i) (a0c7 : L_s) (a0c8 : Int) (a0c9 : Int) (a0c10 : Int) (a0c11 : Int) (a0c12 : Int) (a0c13 : Int) (a0c14 : Int) (a0c15 : Int) (a0c16 : Int) (a0c17 : L_i) (a0c18 : Int) (a0c19 : Int) (a0c20 : Int) (a0c21 : L_i) (a0c22 : L_iiiLiiisE) (a0c23 : L_iiLiEiiisLiE) {left : Int} (hz : Z_ibiiLiELiiisELiELsEiiiiiiiiiLiEiiiLiELiiiLiiisEELiiLiEiiisLiEE (a0c0, a0c1, a0c2, a0c3, a0c4, a0c5, a0c6, a0c7, a0c8, a0c9, a0c10, a0c11, a0c12, a0c13, a0c14, a0c15, a0c16, a0c17, a0c18, a0c19, a0c20, a0c21, a0c22, a0c23, ())) (h0 : 0 ≤ left) (h1 : left ≤ 1048576) : Left (laws_szDaemon a0c0 a0c1 a0c2 a0c3 a0c4 a0c5 a0c6 a0c7 a0c8 a0c9 a0c10 a0c11 a0c12 a0c13 a0c14 a0c15 a0c16 a0c17 a0c18 a0c19 a0c20 a0c21 a0c22 a0c23 left) (W_ibiiLiELiiisELiELsEiiiiiiiiiLiEiiiLiELiiiLiiisEELiiLiEiiisLiEE (a0c0, a0c1, a0c2, a0c3, a0c4, a0c5, a0c6, a0c7, a0c8, a0c9, a0c10, a0c11, a0c12, a0c13, a0c14, a0c15, a0c16, a0c17, a0c18, a0c19, a0c20, a0c21, a0c22, a0c23, ())) left := by
 have hz : (-9223372036854775808 ≤ a0c0 ∧ a0c0 < 9223372036854775808) ∧ (True) ∧ (-9223372036854775808 ≤ a0c2 ∧ a0c2 < 9223372036854775808) ∧ (-9223372036854775808 ≤ a0c3 ∧ a0c3 < 9223372036854775808) ∧ (List.length a0c4 ≤ 9223372036854775807 ∧ ∀ y ∈ a0c4, Z_i y) ∧ (List.length a0c5 ≤ 9223372036854775807 ∧ ∀ y ∈ a0c5, Z_iiis y) ∧ (List.length a0c6 ≤ 9223372036854775807 ∧ ∀ y ∈ a0c6, Z_i y) ∧ (List.length a0c7 ≤ 9223372036854775807 ∧ ∀ y ∈ a0c7, Z_s y) ∧ (-9223372036854775808 ≤ a0c8 ∧ a0c8 < 9223372036854775808) ∧ (-9223372036854775808 ≤ a0c9 ∧ a0c9 < 9223372036854775808) ∧ (-9223372036854775808 ≤ a0c10 ∧ a0c10 < 9223372036854775808) ∧ (-9223372036854775808 ≤ a0c11 ∧ a0c11 < 9223372036854775808) ∧ (-9223372036854775808 ≤ a0c12 ∧ a0c12 < 9223372036854775808) ∧ (-9223372036854775808 ≤ a0c13 ∧ a0c13 < 9223372036854775808) ∧ (-9223372036854775808 ≤ a0c14 ∧ a0c14 < 9223372036854775808) ∧ (-9223372036854775808 ≤ a0c15 ∧ a0c15 < 9223372036854775808) ∧ (-9223372036854775808 ≤ a0c16 ∧ a0c16 < 9223372036854775808) ∧ (List.length a0c17 ≤ 9223372036854775807 ∧ ∀ y ∈ a0c17, Z_i y) ∧ (-9223372036854775808 ≤ a0c18 ∧ a0c18 < 9223372036854775808) ∧ (-9223372036854775808 ≤ a0c19 ∧ a0c19 < 9223372036854775808) ∧ (-9223372036854775808 ≤ a0c20 ∧ a0c20 < 9223372036854775808) ∧ (List.length a0c21 ≤ 9223372036854775807 ∧ ∀ y ∈ a0c21, Z_i y) ∧ (List.length a0c22 ≤ 9223372036854775807 ∧ ∀ y ∈ a0c22, Z_iiiLiiisE y) ∧ (List.length a0c23 ≤ 9223372036854775807 ∧ ∀ y ∈ a0c23, Z_iiLiEiiisLiE y) ∧ True := hz; show Left _ ((List.length a0c4 + wl W_i a0c4) + (List.length a0c5 + wl W_iiis a0c5) + (List.length a0c6 + wl W_i a0c6) + (List.length a0c7 + wl W_s a0c7) + (List.length a0c17 + wl W_i a0c17) + (List.length a0c21 + wl W_i a0c21) + (List.length a0c22 + wl W_iiiLiiisE a0c22) + (List.length a0c23 + wl W_iiLiEiiisLiE a0c23)) left; obtain ⟨z0, z1, z2, z3, z4, z5, z6, z7, z8, z9, z10, z11, z12, z13, z14, z15, z16, z17, z18, z19, z20, z21, z22, z23, _⟩ := hz; unfold laws_szDaemon; obtain ⟨m2, e2, l2, w2⟩ := sz_Mate a0c2 a0c3 a0c4 a0c5 a0c6 a0c7 a0c8 a0c9 a0c10 a0c11 a0c12 a0c13 a0c14 a0c15 a0c16 a0c17 (left := left) ⟨z2, z3, z4, z5, z6, z7, z8, z9, z10, z11, z12, z13, z14, z15, z16, z17, trivial⟩ (by omega) (by omega); have w2 : 0 ≤ m2 → (((List.length a0c4 + wl W_i a0c4) + (List.length a0c5 + wl W_iiis a0c5) + (List.length a0c6 + wl W_i a0c6) + (List.length a0c7 + wl W_s a0c7) + (List.length a0c17 + wl W_i a0c17) : Nat) : Int) + m2 ≤ left := w2; rw [e2]; simp only [Option.bind_some]
 by_cases hd2 : m2 < 0
 · rw [dec_true hd2]; exact ⟨-1, rfl, by omega, by omega⟩
 rw [dec_false hd2]; simp only [cond_false]; have w2 := w2 (by omega); obtain ⟨m20, e20, l20, w20⟩ := sz_Ring a0c20 a0c21 (left := m2) ⟨z20, z21, trivial⟩ (by omega) (by omega); have w20 : 0 ≤ m20 → (((List.length a0c21 + wl W_i a0c21) : Nat) : Int) + m20 ≤ m2 := w20; rw [e20]; simp only [Option.bind_some]
 by_cases hd20 : m20 < 0
 · rw [dec_true hd20]; exact ⟨-1, rfl, by omega, by omega⟩
 rw [dec_false hd20]; simp only [cond_false]; have w20 := w20 (by omega); obtain ⟨m22, e22, l22, w22⟩ := sz_BundleS a0c22 (left := m20) z22 (by omega) (by omega); rw [e22]; simp only [Option.bind_some]
 by_cases hd22 : m22 < 0
 · rw [dec_true hd22]; exact ⟨-1, rfl, by omega, by omega⟩
 rw [dec_false hd22]; simp only [cond_false]; have w22 := w22 (by omega); obtain ⟨m23, e23, l23, w23⟩ := sz_EventS a0c23 (left := m22) z23 (by omega) (by omega); rw [e23]; simp only [Option.bind_some]
 by_cases hd23 : m23 < 0
 · rw [dec_true hd23]; exact ⟨-1, rfl, by omega, by omega⟩
 rw [dec_false hd23]; simp only [cond_false]; have w23 := w23 (by omega); exact ⟨_, rfl, by omega, by intro; omega⟩
theorem to_IntS (a0 : L_i) (h : List.length a0 + wl W_i a0 ≤ 4194304) : laws_toIntS a0 = some (a0, ()) := by
 have hl : loopV laws_toIntS_r0 (a0, List.replicate a0.length ((0 : Int), ()), (0 : Int), ()) = some (.inl (a0, ())) := by
   have := loop_run (round := laws_toIntS_r0) (e := .inl (a0, ())) a0.length (fun k => (a0, a0.take k ++ List.replicate (a0.length - k) ((0 : Int), ()), ((k : Nat) : Int), ())) (by
     simp only [laws_toIntS_r0, laws_toIntS_c0, lt_nat_irr, cond_false, List.take_length, Nat.sub_self, List.replicate_zero, List.append_nil]) (fun k hk => by
     have hb : k < (a0.take k ++ List.replicate (a0.length - k) (((0 : Int), ()) : Int × Unit)).length := by simp; omega
     simp only [laws_toIntS_r0, laws_toIntS_c0, lt_nat_true hk, zero_le_nat, cond_true, toNat_nat, List.getElem?_eq_getElem hk, List.getElem?_eq_getElem hb, Option.bind_some, blt_true hb, succ_wrap (show k < 4611686018427387904 by omega)]; rw [← copy_set a0 _ hk])
   simpa using this
 unfold laws_toIntS; simp only [decide_true, zero_le_nat, cond_true, toNat_nat, ble_true (show a0.length * 8 ≤ lim by unfold lim; omega), hl, outK_inl]
theorem to_Ring (a0c0 : Int) (a0c1 : L_i) (h : W_iLiE (a0c0, a0c1, ()) ≤ 4194304) : laws_toRing a0c0 a0c1 = some (a0c0, a0c1, ()) := by
 have h : (List.length a0c1 + wl W_i a0c1) ≤ 4194304 := h; unfold laws_toRing; simp only [Option.bind_some, to_IntS a0c1 (by show (List.length a0c1 + wl W_i a0c1) ≤ 4194304; omega)]
theorem to_Item (a0c0 : Int) (a0c1 : Int) (a0c2 : Int) (a0c3 : ByteArray) (h : W_iiis (a0c0, a0c1, a0c2, a0c3, ()) ≤ 4194304) : laws_toItem a0c0 a0c1 a0c2 a0c3 = some (a0c0, a0c1, a0c2, a0c3, ()) := by
 have h : ByteArray.size a0c3 ≤ 4194304 := h; rfl
theorem to_ItemS (a0 : L_iiis) (h : List.length a0 + wl W_iiis a0 ≤ 4194304) : laws_toItemS a0 = some (a0, ()) := by
 have hl : loopV laws_toItemS_r0 (a0, List.replicate a0.length ((0 : Int), (0 : Int), (0 : Int), ByteArray.empty, ()), (0 : Int), ()) = some (.inl (a0, ())) := by
   have := loop_run (round := laws_toItemS_r0) (e := .inl (a0, ())) a0.length (fun k => (a0, a0.take k ++ List.replicate (a0.length - k) ((0 : Int), (0 : Int), (0 : Int), ByteArray.empty, ()), ((k : Nat) : Int), ())) (by
     simp only [laws_toItemS_r0, laws_toItemS_c0, lt_nat_irr, cond_false, List.take_length, Nat.sub_self, List.replicate_zero, List.append_nil]) (fun k hk => by
     have hb : k < (a0.take k ++ List.replicate (a0.length - k) (((0 : Int), (0 : Int), (0 : Int), ByteArray.empty, ()) : R_iiis)).length := by simp; omega
     simp only [laws_toItemS_r0, laws_toItemS_c0, lt_nat_true hk, zero_le_nat, cond_true, toNat_nat, List.getElem?_eq_getElem hk, List.getElem?_eq_getElem hb, Option.bind_some, blt_true hb, succ_wrap (show k < 4611686018427387904 by omega), to_Item ((a0[k]).1) ((a0[k]).2.1) ((a0[k]).2.2.1) ((a0[k]).2.2.2.1) (Nat.le_trans (wl_mem W_iiis a0 _ (List.getElem_mem hk)) (by omega))]; rw [← copy_set a0 _ hk])
   simpa using this
 unfold laws_toItemS; simp only [decide_true, zero_le_nat, cond_true, toNat_nat, ble_true (show a0.length * 40 ≤ lim by unfold lim; omega), hl, outK_inl]
theorem to_StringS (a0 : L_s) (h : List.length a0 + wl W_s a0 ≤ 4194304) : laws_toStringS a0 = some (a0, ()) := by
 have hl : loopV laws_toStringS_r0 (a0, List.replicate a0.length (ByteArray.empty, ()), (0 : Int), ()) = some (.inl (a0, ())) := by
   have := loop_run (round := laws_toStringS_r0) (e := .inl (a0, ())) a0.length (fun k => (a0, a0.take k ++ List.replicate (a0.length - k) (ByteArray.empty, ()), ((k : Nat) : Int), ())) (by
     simp only [laws_toStringS_r0, laws_toStringS_c0, lt_nat_irr, cond_false, List.take_length, Nat.sub_self, List.replicate_zero, List.append_nil]) (fun k hk => by
     have hb : k < (a0.take k ++ List.replicate (a0.length - k) ((ByteArray.empty, ()) : ByteArray × Unit)).length := by simp; omega
     simp only [laws_toStringS_r0, laws_toStringS_c0, lt_nat_true hk, zero_le_nat, cond_true, toNat_nat, List.getElem?_eq_getElem hk, List.getElem?_eq_getElem hb, Option.bind_some, blt_true hb, succ_wrap (show k < 4611686018427387904 by omega)]; rw [← copy_set a0 _ hk])
   simpa using this
 unfold laws_toStringS; simp only [decide_true, zero_le_nat, cond_true, toNat_nat, ble_true (show a0.length * 16 ≤ lim by unfold lim; omega), hl, outK_inl]
theorem to_Token (a0c0 : Int) (a0c1 : Int) (a0c2 : Int) (a0c3 : Int) (a0c4 : Int) (a0c5 : L_i) (h : W_iiiiiLiE (a0c0, a0c1, a0c2, a0c3, a0c4, a0c5, ()) ≤ 4194304) : laws_toToken a0c0 a0c1 a0c2 a0c3 a0c4 a0c5 = some (a0c0, a0c1, a0c2, a0c3, a0c4, a0c5, ()) := by
 have h : (List.length a0c5 + wl W_i a0c5) ≤ 4194304 := h; unfold laws_toToken; simp only [Option.bind_some, to_IntS a0c5 (by show (List.length a0c5 + wl W_i a0c5) ≤ 4194304; omega)]
theorem to_Mate (a0c0 : Int) (a0c1 : Int) (a0c2 : L_i) (a0c3 : L_iiis) (a0c4 : L_i) (a0c5 : L_s) (a0c6 : Int) (a0c7 : Int) (a0c8 : Int) (a0c9 : Int) (a0c10 : Int) (a0c11 : Int) (a0c12 : Int) (a0c13 : Int) (a0c14 : Int) (a0c15 : L_i) (h : W_iiLiELiiisELiELsEiiiiiiiiiLiE (a0c0, a0c1, a0c2, a0c3, a0c4, a0c5, a0c6, a0c7, a0c8, a0c9, a0c10, a0c11, a0c12, a0c13, a0c14, a0c15, ()) ≤ 4194304) : laws_toMate a0c0 a0c1 a0c2 a0c3 a0c4 a0c5 a0c6 a0c7 a0c8 a0c9 a0c10 a0c11 a0c12 a0c13 a0c14 a0c15 = some (a0c0, a0c1, a0c2, a0c3, a0c4, a0c5, a0c6, a0c7, a0c8, a0c9, a0c10, a0c11, a0c12, a0c13, a0c14, a0c15, ()) := by
 have h : (List.length a0c2 + wl W_i a0c2) + (List.length a0c3 + wl W_iiis a0c3) + (List.length a0c4 + wl W_i a0c4) + (List.length a0c5 + wl W_s a0c5) + (List.length a0c15 + wl W_i a0c15) ≤ 4194304 := h; unfold laws_toMate; simp only [Option.bind_some, to_Ring a0c1 a0c2 (by show (List.length a0c2 + wl W_i a0c2) ≤ 4194304; omega), to_ItemS a0c3 (by show (List.length a0c3 + wl W_iiis a0c3) ≤ 4194304; omega), to_IntS a0c4 (by show (List.length a0c4 + wl W_i a0c4) ≤ 4194304; omega), to_StringS a0c5 (by show (List.length a0c5 + wl W_s a0c5) ≤ 4194304; omega), to_Token a0c10 a0c11 a0c12 a0c13 a0c14 a0c15 (by show (List.length a0c15 + wl W_i a0c15) ≤ 4194304; omega)]
theorem to_Bundle (a0c0 : Int) (a0c1 : Int) (a0c2 : Int) (a0c3 : L_iiis) (h : W_iiiLiiisE (a0c0, a0c1, a0c2, a0c3, ()) ≤ 4194304) : laws_toBundle a0c0 a0c1 a0c2 a0c3 = some (a0c0, a0c1, a0c2, a0c3, ()) := by
 have h : (List.length a0c3 + wl W_iiis a0c3) ≤ 4194304 := h; unfold laws_toBundle; simp only [Option.bind_some, to_ItemS a0c3 (by show (List.length a0c3 + wl W_iiis a0c3) ≤ 4194304; omega)]
theorem to_BundleS (a0 : L_iiiLiiisE) (h : List.length a0 + wl W_iiiLiiisE a0 ≤ 4194304) : laws_toBundleS a0 = some (a0, ()) := by
 have hl : loopV laws_toBundleS_r0 (a0, List.replicate a0.length ((0 : Int), (0 : Int), (0 : Int), [], ()), (0 : Int), ()) = some (.inl (a0, ())) := by
   have := loop_run (round := laws_toBundleS_r0) (e := .inl (a0, ())) a0.length (fun k => (a0, a0.take k ++ List.replicate (a0.length - k) ((0 : Int), (0 : Int), (0 : Int), [], ()), ((k : Nat) : Int), ())) (by
     simp only [laws_toBundleS_r0, laws_toBundleS_c0, lt_nat_irr, cond_false, List.take_length, Nat.sub_self, List.replicate_zero, List.append_nil]) (fun k hk => by
     have hb : k < (a0.take k ++ List.replicate (a0.length - k) (((0 : Int), (0 : Int), (0 : Int), [], ()) : R_iiiLiiisE)).length := by simp; omega
     simp only [laws_toBundleS_r0, laws_toBundleS_c0, lt_nat_true hk, zero_le_nat, cond_true, toNat_nat, List.getElem?_eq_getElem hk, List.getElem?_eq_getElem hb, Option.bind_some, blt_true hb, succ_wrap (show k < 4611686018427387904 by omega), to_Bundle ((a0[k]).1) ((a0[k]).2.1) ((a0[k]).2.2.1) ((a0[k]).2.2.2.1) (Nat.le_trans (wl_mem W_iiiLiiisE a0 _ (List.getElem_mem hk)) (by omega))]; rw [← copy_set a0 _ hk])
   simpa using this
 unfold laws_toBundleS; simp only [decide_true, zero_le_nat, cond_true, toNat_nat, ble_true (show a0.length * 48 ≤ lim by unfold lim; omega), hl, outK_inl]
theorem to_Event (a0c0 : Int) (a0c1 : Int) (a0c2 : L_i) (a0c3 : Int) (a0c4 : Int) (a0c5 : Int) (a0c6 : ByteArray) (a0c7 : L_i) (h : W_iiLiEiiisLiE (a0c0, a0c1, a0c2, a0c3, a0c4, a0c5, a0c6, a0c7, ()) ≤ 4194304) : laws_toEvent a0c0 a0c1 a0c2 a0c3 a0c4 a0c5 a0c6 a0c7 = some (a0c0, a0c1, a0c2, a0c3, a0c4, a0c5, a0c6, a0c7, ()) := by
 have h : (List.length a0c2 + wl W_i a0c2) + ByteArray.size a0c6 + (List.length a0c7 + wl W_i a0c7) ≤ 4194304 := h; unfold laws_toEvent; simp only [Option.bind_some, to_Ring a0c1 a0c2 (by show (List.length a0c2 + wl W_i a0c2) ≤ 4194304; omega), to_Item a0c3 a0c4 a0c5 a0c6 (by show ByteArray.size a0c6 ≤ 4194304; omega), to_IntS a0c7 (by show (List.length a0c7 + wl W_i a0c7) ≤ 4194304; omega)]
theorem to_EventS (a0 : L_iiLiEiiisLiE) (h : List.length a0 + wl W_iiLiEiiisLiE a0 ≤ 4194304) : laws_toEventS a0 = some (a0, ()) := by
 have hl : loopV laws_toEventS_r0 (a0, List.replicate a0.length ((0 : Int), (0 : Int), [], (0 : Int), (0 : Int), (0 : Int), ByteArray.empty, [], ()), (0 : Int), ()) = some (.inl (a0, ())) := by
   have := loop_run (round := laws_toEventS_r0) (e := .inl (a0, ())) a0.length (fun k => (a0, a0.take k ++ List.replicate (a0.length - k) ((0 : Int), (0 : Int), [], (0 : Int), (0 : Int), (0 : Int), ByteArray.empty, [], ()), ((k : Nat) : Int), ())) (by
     simp only [laws_toEventS_r0, laws_toEventS_c0, lt_nat_irr, cond_false, List.take_length, Nat.sub_self, List.replicate_zero, List.append_nil]) (fun k hk => by
     have hb : k < (a0.take k ++ List.replicate (a0.length - k) (((0 : Int), (0 : Int), [], (0 : Int), (0 : Int), (0 : Int), ByteArray.empty, [], ()) : R_iiLiEiiisLiE)).length := by simp; omega
     simp only [laws_toEventS_r0, laws_toEventS_c0, lt_nat_true hk, zero_le_nat, cond_true, toNat_nat, List.getElem?_eq_getElem hk, List.getElem?_eq_getElem hb, Option.bind_some, blt_true hb, succ_wrap (show k < 4611686018427387904 by omega), to_Event ((a0[k]).1) ((a0[k]).2.1) ((a0[k]).2.2.1) ((a0[k]).2.2.2.1) ((a0[k]).2.2.2.2.1) ((a0[k]).2.2.2.2.2.1) ((a0[k]).2.2.2.2.2.2.1) ((a0[k]).2.2.2.2.2.2.2.1) (Nat.le_trans (wl_mem W_iiLiEiiisLiE a0 _ (List.getElem_mem hk)) (by omega))]; rw [← copy_set a0 _ hk])
   simpa using this
 unfold laws_toEventS; simp only [decide_true, zero_le_nat, cond_true, toNat_nat, ble_true (show a0.length * 104 ≤ lim by unfold lim; omega), hl, outK_inl]
theorem to_Daemon (a0c0 : Int) (a0c1 : Bool) (a0c2 : Int) (a0c3 : Int) (a0c4 : L_i) (a0c5 : L_iiis) (a0c6 : L_i) (a0c7 : L_s) (a0c8 : Int) (a0c9 : Int) (a0c10 : Int) (a0c11 : Int) (a0c12 : Int) (a0c13 : Int) (a0c14 : Int) (a0c15 : Int) (a0c16 : Int) (a0c17 : L_i) (a0c18 : Int) (a0c19 : Int) (a0c20 : Int) (a0c21 : L_i) (a0c22 : L_iiiLiiisE) (a0c23 : L_iiLiEiiisLiE) (h : W_ibiiLiELiiisELiELsEiiiiiiiiiLiEiiiLiELiiiLiiisEELiiLiEiiisLiEE (a0c0, a0c1, a0c2, a0c3, a0c4, a0c5, a0c6, a0c7, a0c8, a0c9, a0c10, a0c11, a0c12, a0c13, a0c14, a0c15, a0c16, a0c17, a0c18, a0c19, a0c20, a0c21, a0c22, a0c23, ()) ≤ 4194304) : laws_toDaemon a0c0 a0c1 a0c2 a0c3 a0c4 a0c5 a0c6 a0c7 a0c8 a0c9 a0c10 a0c11 a0c12 a0c13 a0c14 a0c15 a0c16 a0c17 a0c18 a0c19 a0c20 a0c21 a0c22 a0c23 = some (a0c0, a0c1, a0c2, a0c3, a0c4, a0c5, a0c6, a0c7, a0c8, a0c9, a0c10, a0c11, a0c12, a0c13, a0c14, a0c15, a0c16, a0c17, a0c18, a0c19, a0c20, a0c21, a0c22, a0c23, ()) := by
 have h : (List.length a0c4 + wl W_i a0c4) + (List.length a0c5 + wl W_iiis a0c5) + (List.length a0c6 + wl W_i a0c6) + (List.length a0c7 + wl W_s a0c7) + (List.length a0c17 + wl W_i a0c17) + (List.length a0c21 + wl W_i a0c21) + (List.length a0c22 + wl W_iiiLiiisE a0c22) + (List.length a0c23 + wl W_iiLiEiiisLiE a0c23) ≤ 4194304 := h; unfold laws_toDaemon; simp only [Option.bind_some, to_Mate a0c2 a0c3 a0c4 a0c5 a0c6 a0c7 a0c8 a0c9 a0c10 a0c11 a0c12 a0c13 a0c14 a0c15 a0c16 a0c17 (by show (List.length a0c4 + wl W_i a0c4) + (List.length a0c5 + wl W_iiis a0c5) + (List.length a0c6 + wl W_i a0c6) + (List.length a0c7 + wl W_s a0c7) + (List.length a0c17 + wl W_i a0c17) ≤ 4194304; omega), to_Ring a0c20 a0c21 (by show (List.length a0c21 + wl W_i a0c21) ≤ 4194304; omega), to_BundleS a0c22 (by show (List.length a0c22 + wl W_iiiLiiisE a0c22) ≤ 4194304; omega), to_EventS a0c23 (by show (List.length a0c23 + wl W_iiLiEiiisLiE a0c23) ≤ 4194304; omega)]
theorem eq_IntS (a0 : L_i) (h : List.length a0 + wl W_i a0 ≤ 4194304) : laws_eqIntS a0 a0 = some (true, ()) := by
 have hl : loopV laws_eqIntS_r0 (a0, a0, (0 : Int), ()) = some (.inl ()) := by
   have := loop_run (round := laws_eqIntS_r0) (e := .inl ()) a0.length (fun k => (a0, a0, ((k : Nat) : Int), ())) (by
     simp only [laws_eqIntS_r0, laws_eqIntS_c0, lt_nat_irr, cond_false]) (fun k hk => by
     simp only [laws_eqIntS_r0, laws_eqIntS_c0, lt_nat_true hk, zero_le_nat, cond_true, cond_false, toNat_nat, List.getElem?_eq_getElem hk, Option.bind_some, decide_true, beq_self_eq_true, strEq_self, Bool.not_true, succ_wrap (show k < 4611686018427387904 by omega)])
   simpa using this
 unfold laws_eqIntS; simp only [decide_true, Bool.not_true, cond_false, hl, outK_inl]
theorem eq_Ring (a0c0 : Int) (a0c1 : L_i) (h : W_iLiE (a0c0, a0c1, ()) ≤ 4194304) : laws_eqRing a0c0 a0c1 a0c0 a0c1 = some (true, ()) := by
 have h : (List.length a0c1 + wl W_i a0c1) ≤ 4194304 := h; unfold laws_eqRing; simp only [decide_true, beq_self_eq_true, Bool.not_true, Bool.not_false, cond_true, cond_false, strEq_self, Option.bind_some, eq_IntS a0c1 (by show (List.length a0c1 + wl W_i a0c1) ≤ 4194304; omega)]
theorem eq_Item (a0c0 : Int) (a0c1 : Int) (a0c2 : Int) (a0c3 : ByteArray) (h : W_iiis (a0c0, a0c1, a0c2, a0c3, ()) ≤ 4194304) : laws_eqItem a0c0 a0c1 a0c2 a0c3 a0c0 a0c1 a0c2 a0c3 = some (true, ()) := by
 have h : ByteArray.size a0c3 ≤ 4194304 := h; unfold laws_eqItem; simp only [decide_true, beq_self_eq_true, Bool.not_true, Bool.not_false, cond_true, cond_false, strEq_self, Option.bind_some]
theorem eq_ItemS (a0 : L_iiis) (h : List.length a0 + wl W_iiis a0 ≤ 4194304) : laws_eqItemS a0 a0 = some (true, ()) := by
 have hl : loopV laws_eqItemS_r0 (a0, a0, (0 : Int), ()) = some (.inl ()) := by
   have := loop_run (round := laws_eqItemS_r0) (e := .inl ()) a0.length (fun k => (a0, a0, ((k : Nat) : Int), ())) (by
     simp only [laws_eqItemS_r0, laws_eqItemS_c0, lt_nat_irr, cond_false]) (fun k hk => by
     simp only [laws_eqItemS_r0, laws_eqItemS_c0, lt_nat_true hk, zero_le_nat, cond_true, cond_false, toNat_nat, List.getElem?_eq_getElem hk, Option.bind_some, decide_true, beq_self_eq_true, strEq_self, Bool.not_true, succ_wrap (show k < 4611686018427387904 by omega), eq_Item ((a0[k]).1) ((a0[k]).2.1) ((a0[k]).2.2.1) ((a0[k]).2.2.2.1) (Nat.le_trans (wl_mem W_iiis a0 _ (List.getElem_mem hk)) (by omega))])
   simpa using this
 unfold laws_eqItemS; simp only [decide_true, Bool.not_true, cond_false, hl, outK_inl]
theorem eq_StringS (a0 : L_s) (h : List.length a0 + wl W_s a0 ≤ 4194304) : laws_eqStringS a0 a0 = some (true, ()) := by
 have hl : loopV laws_eqStringS_r0 (a0, a0, (0 : Int), ()) = some (.inl ()) := by
   have := loop_run (round := laws_eqStringS_r0) (e := .inl ()) a0.length (fun k => (a0, a0, ((k : Nat) : Int), ())) (by
     simp only [laws_eqStringS_r0, laws_eqStringS_c0, lt_nat_irr, cond_false]) (fun k hk => by
     simp only [laws_eqStringS_r0, laws_eqStringS_c0, lt_nat_true hk, zero_le_nat, cond_true, cond_false, toNat_nat, List.getElem?_eq_getElem hk, Option.bind_some, decide_true, beq_self_eq_true, strEq_self, Bool.not_true, succ_wrap (show k < 4611686018427387904 by omega)])
   simpa using this
 unfold laws_eqStringS; simp only [decide_true, Bool.not_true, cond_false, hl, outK_inl]
theorem eq_Token (a0c0 : Int) (a0c1 : Int) (a0c2 : Int) (a0c3 : Int) (a0c4 : Int) (a0c5 : L_i) (h : W_iiiiiLiE (a0c0, a0c1, a0c2, a0c3, a0c4, a0c5, ()) ≤ 4194304) : laws_eqToken a0c0 a0c1 a0c2 a0c3 a0c4 a0c5 a0c0 a0c1 a0c2 a0c3 a0c4 a0c5 = some (true, ()) := by
 have h : (List.length a0c5 + wl W_i a0c5) ≤ 4194304 := h; unfold laws_eqToken; simp only [decide_true, beq_self_eq_true, Bool.not_true, Bool.not_false, cond_true, cond_false, strEq_self, Option.bind_some, eq_IntS a0c5 (by show (List.length a0c5 + wl W_i a0c5) ≤ 4194304; omega)]
theorem eq_Mate (a0c0 : Int) (a0c1 : Int) (a0c2 : L_i) (a0c3 : L_iiis) (a0c4 : L_i) (a0c5 : L_s) (a0c6 : Int) (a0c7 : Int) (a0c8 : Int) (a0c9 : Int) (a0c10 : Int) (a0c11 : Int) (a0c12 : Int) (a0c13 : Int) (a0c14 : Int) (a0c15 : L_i) (h : W_iiLiELiiisELiELsEiiiiiiiiiLiE (a0c0, a0c1, a0c2, a0c3, a0c4, a0c5, a0c6, a0c7, a0c8, a0c9, a0c10, a0c11, a0c12, a0c13, a0c14, a0c15, ()) ≤ 4194304) : laws_eqMate a0c0 a0c1 a0c2 a0c3 a0c4 a0c5 a0c6 a0c7 a0c8 a0c9 a0c10 a0c11 a0c12 a0c13 a0c14 a0c15 a0c0 a0c1 a0c2 a0c3 a0c4 a0c5 a0c6 a0c7 a0c8 a0c9 a0c10 a0c11 a0c12 a0c13 a0c14 a0c15 = some (true, ()) := by
 have h : (List.length a0c2 + wl W_i a0c2) + (List.length a0c3 + wl W_iiis a0c3) + (List.length a0c4 + wl W_i a0c4) + (List.length a0c5 + wl W_s a0c5) + (List.length a0c15 + wl W_i a0c15) ≤ 4194304 := h; unfold laws_eqMate; simp only [decide_true, beq_self_eq_true, Bool.not_true, Bool.not_false, cond_true, cond_false, strEq_self, Option.bind_some, eq_Ring a0c1 a0c2 (by show (List.length a0c2 + wl W_i a0c2) ≤ 4194304; omega), eq_ItemS a0c3 (by show (List.length a0c3 + wl W_iiis a0c3) ≤ 4194304; omega), eq_IntS a0c4 (by show (List.length a0c4 + wl W_i a0c4) ≤ 4194304; omega), eq_StringS a0c5 (by show (List.length a0c5 + wl W_s a0c5) ≤ 4194304; omega), eq_Token a0c10 a0c11 a0c12 a0c13 a0c14 a0c15 (by show (List.length a0c15 + wl W_i a0c15) ≤ 4194304; omega)]
theorem eq_Bundle (a0c0 : Int) (a0c1 : Int) (a0c2 : Int) (a0c3 : L_iiis) (h : W_iiiLiiisE (a0c0, a0c1, a0c2, a0c3, ()) ≤ 4194304) : laws_eqBundle a0c0 a0c1 a0c2 a0c3 a0c0 a0c1 a0c2 a0c3 = some (true, ()) := by
 have h : (List.length a0c3 + wl W_iiis a0c3) ≤ 4194304 := h; unfold laws_eqBundle; simp only [decide_true, beq_self_eq_true, Bool.not_true, Bool.not_false, cond_true, cond_false, strEq_self, Option.bind_some, eq_ItemS a0c3 (by show (List.length a0c3 + wl W_iiis a0c3) ≤ 4194304; omega)]
theorem eq_BundleS (a0 : L_iiiLiiisE) (h : List.length a0 + wl W_iiiLiiisE a0 ≤ 4194304) : laws_eqBundleS a0 a0 = some (true, ()) := by
 have hl : loopV laws_eqBundleS_r0 (a0, a0, (0 : Int), ()) = some (.inl ()) := by
   have := loop_run (round := laws_eqBundleS_r0) (e := .inl ()) a0.length (fun k => (a0, a0, ((k : Nat) : Int), ())) (by
     simp only [laws_eqBundleS_r0, laws_eqBundleS_c0, lt_nat_irr, cond_false]) (fun k hk => by
     simp only [laws_eqBundleS_r0, laws_eqBundleS_c0, lt_nat_true hk, zero_le_nat, cond_true, cond_false, toNat_nat, List.getElem?_eq_getElem hk, Option.bind_some, decide_true, beq_self_eq_true, strEq_self, Bool.not_true, succ_wrap (show k < 4611686018427387904 by omega), eq_Bundle ((a0[k]).1) ((a0[k]).2.1) ((a0[k]).2.2.1) ((a0[k]).2.2.2.1) (Nat.le_trans (wl_mem W_iiiLiiisE a0 _ (List.getElem_mem hk)) (by omega))])
   simpa using this
 unfold laws_eqBundleS; simp only [decide_true, Bool.not_true, cond_false, hl, outK_inl]
theorem eq_Event (a0c0 : Int) (a0c1 : Int) (a0c2 : L_i) (a0c3 : Int) (a0c4 : Int) (a0c5 : Int) (a0c6 : ByteArray) (a0c7 : L_i) (h : W_iiLiEiiisLiE (a0c0, a0c1, a0c2, a0c3, a0c4, a0c5, a0c6, a0c7, ()) ≤ 4194304) : laws_eqEvent a0c0 a0c1 a0c2 a0c3 a0c4 a0c5 a0c6 a0c7 a0c0 a0c1 a0c2 a0c3 a0c4 a0c5 a0c6 a0c7 = some (true, ()) := by
 have h : (List.length a0c2 + wl W_i a0c2) + ByteArray.size a0c6 + (List.length a0c7 + wl W_i a0c7) ≤ 4194304 := h; unfold laws_eqEvent; simp only [decide_true, beq_self_eq_true, Bool.not_true, Bool.not_false, cond_true, cond_false, strEq_self, Option.bind_some, eq_Ring a0c1 a0c2 (by show (List.length a0c2 + wl W_i a0c2) ≤ 4194304; omega), eq_Item a0c3 a0c4 a0c5 a0c6 (by show ByteArray.size a0c6 ≤ 4194304; omega), eq_IntS a0c7 (by show (List.length a0c7 + wl W_i a0c7) ≤ 4194304; omega)]
theorem eq_EventS (a0 : L_iiLiEiiisLiE) (h : List.length a0 + wl W_iiLiEiiisLiE a0 ≤ 4194304) : laws_eqEventS a0 a0 = some (true, ()) := by
 have hl : loopV laws_eqEventS_r0 (a0, a0, (0 : Int), ()) = some (.inl ()) := by
   have := loop_run (round := laws_eqEventS_r0) (e := .inl ()) a0.length (fun k => (a0, a0, ((k : Nat) : Int), ())) (by
     simp only [laws_eqEventS_r0, laws_eqEventS_c0, lt_nat_irr, cond_false]) (fun k hk => by
     simp only [laws_eqEventS_r0, laws_eqEventS_c0, lt_nat_true hk, zero_le_nat, cond_true, cond_false, toNat_nat, List.getElem?_eq_getElem hk, Option.bind_some, decide_true, beq_self_eq_true, strEq_self, Bool.not_true, succ_wrap (show k < 4611686018427387904 by omega), eq_Event ((a0[k]).1) ((a0[k]).2.1) ((a0[k]).2.2.1) ((a0[k]).2.2.2.1) ((a0[k]).2.2.2.2.1) ((a0[k]).2.2.2.2.2.1) ((a0[k]).2.2.2.2.2.2.1) ((a0[k]).2.2.2.2.2.2.2.1) (Nat.le_trans (wl_mem W_iiLiEiiisLiE a0 _ (List.getElem_mem hk)) (by omega))])
   simpa using this
 unfold laws_eqEventS; simp only [decide_true, Bool.not_true, cond_false, hl, outK_inl]
theorem eq_Daemon (a0c0 : Int) (a0c1 : Bool) (a0c2 : Int) (a0c3 : Int) (a0c4 : L_i) (a0c5 : L_iiis) (a0c6 : L_i) (a0c7 : L_s) (a0c8 : Int) (a0c9 : Int) (a0c10 : Int) (a0c11 : Int) (a0c12 : Int) (a0c13 : Int) (a0c14 : Int) (a0c15 : Int) (a0c16 : Int) (a0c17 : L_i) (a0c18 : Int) (a0c19 : Int) (a0c20 : Int) (a0c21 : L_i) (a0c22 : L_iiiLiiisE) (a0c23 : L_iiLiEiiisLiE) (h : W_ibiiLiELiiisELiELsEiiiiiiiiiLiEiiiLiELiiiLiiisEELiiLiEiiisLiEE (a0c0, a0c1, a0c2, a0c3, a0c4, a0c5, a0c6, a0c7, a0c8, a0c9, a0c10, a0c11, a0c12, a0c13, a0c14, a0c15, a0c16, a0c17, a0c18, a0c19, a0c20, a0c21, a0c22, a0c23, ()) ≤ 4194304) : laws_eqDaemon a0c0 a0c1 a0c2 a0c3 a0c4 a0c5 a0c6 a0c7 a0c8 a0c9 a0c10 a0c11 a0c12 a0c13 a0c14 a0c15 a0c16 a0c17 a0c18 a0c19 a0c20 a0c21 a0c22 a0c23 a0c0 a0c1 a0c2 a0c3 a0c4 a0c5 a0c6 a0c7 a0c8 a0c9 a0c10 a0c11 a0c12 a0c13 a0c14 a0c15 a0c16 a0c17 a0c18 a0c19 a0c20 a0c21 a0c22 a0c23 = some (true, ()) := by
 have h : (List.length a0c4 + wl W_i a0c4) + (List.length a0c5 + wl W_iiis a0c5) + (List.length a0c6 + wl W_i a0c6) + (List.length a0c7 + wl W_s a0c7) + (List.length a0c17 + wl W_i a0c17) + (List.length a0c21 + wl W_i a0c21) + (List.length a0c22 + wl W_iiiLiiisE a0c22) + (List.length a0c23 + wl W_iiLiEiiisLiE a0c23) ≤ 4194304 := h; unfold laws_eqDaemon; simp only [decide_true, beq_self_eq_true, Bool.not_true, Bool.not_false, cond_true, cond_false, strEq_self, Option.bind_some, eq_Mate a0c2 a0c3 a0c4 a0c5 a0c6 a0c7 a0c8 a0c9 a0c10 a0c11 a0c12 a0c13 a0c14 a0c15 a0c16 a0c17 (by show (List.length a0c4 + wl W_i a0c4) + (List.length a0c5 + wl W_iiis a0c5) + (List.length a0c6 + wl W_i a0c6) + (List.length a0c7 + wl W_s a0c7) + (List.length a0c17 + wl W_i a0c17) ≤ 4194304; omega), eq_Ring a0c20 a0c21 (by show (List.length a0c21 + wl W_i a0c21) ≤ 4194304; omega), eq_BundleS a0c22 (by show (List.length a0c22 + wl W_iiiLiiisE a0c22) ≤ 4194304; omega), eq_EventS a0c23 (by show (List.length a0c23 + wl W_iiLiEiiisLiE a0c23) ≤ 4194304; omega)]
end Go.TM
