/- What the laws draw. -/
import Derived.Test.YtlgnmloddedbaaaGreatAPWorldNew
set_option linter.unusedSimpArgs false
set_option linter.unusedVariables false
namespace Go.TM
open Go
def DrawAt (code : List (Int × Unit)) (at_ : Int) : Prop := 0 ≤ at_ ∧ at_ ≤ ((code.length : Nat) : Int) ∧ code.length ≤ 1048576
theorem band255 (y : Int) : 0 ≤ IntKind.i64.wrap ((BitVec.ofInt IntKind.i64.bits y &&& BitVec.ofInt IntKind.i64.bits (255 : Int)).toNat : Int) ∧ IntKind.i64.wrap ((BitVec.ofInt IntKind.i64.bits y &&& BitVec.ofInt IntKind.i64.bits (255 : Int)).toNat : Int) ≤ 255 := by
 have h : (BitVec.ofInt IntKind.i64.bits y &&& BitVec.ofInt IntKind.i64.bits (255 : Int)).toNat ≤ 255 := by
   rw [BitVec.toNat_and]; exact Nat.le_trans Nat.and_le_right (by decide)
 rw [wrap_id (by omega) (by omega)]; omega
def Drawn (code : List (Int × Unit)) (o : Option (Int × (List (Int × Unit)) × Int × Int × Unit)) (lo hi : Int) : Prop :=
 ∃ v at' s', o = some (v, code, at', s', ()) ∧ lo ≤ v ∧ v < hi ∧ DrawAt code at'
theorem byte_ok (code : List (Int × Unit)) (at_ seed : Int) (h : DrawAt code at_) : Drawn code (spec_l01Byte code at_ seed) 0 256 := by
 obtain ⟨h0, h1, h2⟩ := h; unfold spec_l01Byte
 by_cases hlt : at_ < ((List.length code : Nat) : Int)
 · obtain ⟨k, rfl⟩ := Int.eq_ofNat_of_zero_le h0; have hk : k < code.length := by omega
   rw [dec_true hlt]; simp only [cond_true, zero_le_nat, toNat_nat, List.getElem?_eq_getElem hk, Option.bind_some, succ_wrap (show k < 4611686018427387904 by omega)]; exact ⟨_, _, _, rfl, (band255 _).1, by have := (band255 (IntKind.i64.wrap ((IntKind.i64.wrap ((BitVec.ofInt IntKind.i64.bits (IntKind.i64.wrap ((BitVec.ofInt IntKind.i64.bits (Int.fdiv (IntKind.i64.wrap ((IntKind.i64.wrap (seed * (6364136223846793005 : Int))) + (1442695040888963407 : Int))) (2 ^ (min 33 IntKind.i64.bits))) ^^^ BitVec.ofInt IntKind.i64.bits (Int.fdiv (IntKind.i64.wrap ((IntKind.i64.wrap (seed * (6364136223846793005 : Int))) + (1442695040888963407 : Int))) (2 ^ (min 45 IntKind.i64.bits)))).toNat : Int)) &&& BitVec.ofInt IntKind.i64.bits (255 : Int)).toNat : Int)) + (IntKind.i64.wrap code[k].1)))).2; exact Int.lt_add_one_of_le this, by omega, by omega, h2⟩
 · rw [dec_false hlt]; exact ⟨_, _, _, rfl, (band255 _).1, Int.lt_add_one_of_le (band255 _).2, h0, h1, h2⟩
theorem tmod_range {v n : Int} (hv : 0 ≤ v) (hn : 0 < n) : 0 ≤ Int.tmod v n ∧ Int.tmod v n < n := by
 obtain ⟨a, rfl⟩ := Int.eq_ofNat_of_zero_le hv; obtain ⟨b, rfl⟩ := Int.eq_ofNat_of_zero_le (Int.le_of_lt hn); have : Int.tmod ((a : Nat) : Int) ((b : Nat) : Int) = ((a % b : Nat) : Int) := rfl; rw [this]; have := Nat.mod_lt a (show 0 < b by omega); omega
theorem below_ok (code : List (Int × Unit)) (at_ seed n : Int) (h : DrawAt code at_) (hn : 0 < n) : Drawn code (spec_l01Below code at_ seed n) 0 n := by
 unfold spec_l01Below; rw [dec_false (show ¬ n ≤ 0 by omega), dec_false (show ¬ n = 0 by omega)]
 by_cases h256 : n ≤ 256
 · obtain ⟨v, a1, s1, e1, v1, v2, d1⟩ := byte_ok code at_ seed h; rw [dec_true h256]; simp only [cond_false, cond_true, e1, Option.bind_some]; exact ⟨_, _, _, rfl, (tmod_range v1 hn).1, (tmod_range v1 hn).2, d1⟩
 · obtain ⟨v, a1, s1, e1, v1, v2, d1⟩ := byte_ok code at_ seed h; obtain ⟨w, a2, s2, e2, w1, w2, d2⟩ := byte_ok code a1 s1 d1; obtain ⟨x, a3, s3, e3, x1, x2, d3⟩ := byte_ok code a2 s2 d2; obtain ⟨y, a4, s4, e4, y1, y2, d4⟩ := byte_ok code a3 s3 d3; rw [dec_false h256]; simp only [cond_false, e1, e2, e3, e4, Option.bind_some]; have hw : IntKind.i64.wrap ((IntKind.i64.wrap ((IntKind.i64.wrap ((IntKind.i64.wrap (v * (16777216 : Int))) + (IntKind.i64.wrap (w * (65536 : Int))))) + (IntKind.i64.wrap (x * (256 : Int))))) + y) = v * 16777216 + w * 65536 + x * 256 + y := by
     rw [wrap_id (show -9223372036854775808 ≤ v * (16777216 : Int) by omega) (by omega), wrap_id (show -9223372036854775808 ≤ w * (65536 : Int) by omega) (by omega), wrap_id (show -9223372036854775808 ≤ x * (256 : Int) by omega) (by omega),
       wrap_id (show -9223372036854775808 ≤ v * (16777216 : Int) + w * 65536 by omega) (by omega), wrap_id (show -9223372036854775808 ≤ v * (16777216 : Int) + w * 65536 + x * 256 by omega) (by omega), wrap_id (by omega) (by omega)]
   rw [hw]; have hr := tmod_range (v := v * 16777216 + w * 65536 + x * 256 + y) (by omega) hn; exact ⟨_, _, _, rfl, hr.1, hr.2, d4⟩
theorem once_ok (code : List (Int × Unit)) (at_ seed n : Int) (h : DrawAt code at_) (hn : 0 < n) : ∃ b at' s', spec_l01Once code at_ seed n = some (b, code, at', s', ()) ∧ DrawAt code at' := by
 obtain ⟨v, a1, s1, e1, v1, v2, d1⟩ := below_ok code at_ seed n h hn; unfold spec_l01Once; simp only [e1, Option.bind_some]; exact ⟨_, _, _, rfl, d1⟩
def NewOut {B : Type} (code : List (Int × Unit)) : Sum ((List (Int × Unit)) × Int × Unit) B → Prop
 | .inl y => y.1 = code
 | .inr _ => False
theorem new_ok (code : List (Int × Unit)) (h : code.length ≤ 1048576) : ∃ s', spec_l01New code = some (code, (0 : Int), s', ()) := by
 unfold spec_l01New; obtain ⟨e, he, hq⟩ := loop_inv (round := spec_l01New_r0) (x := (code, IntKind.i64.wrap ((27101 : Int) + ((List.length code : Nat) : Int)), ((0 : Nat) : Int), ())) code.length (fun k x => ∃ s, x = (code, s, ((k : Nat) : Int), ())) (NewOut code) (by
   rintro x ⟨s, rfl⟩
   exact ⟨.inl (code, s, ()), by simp only [spec_l01New_r0, spec_l01New_c0, lt_nat_irr, cond_false], rfl⟩) (by
   rintro k x hk ⟨s, rfl⟩
   simp only [spec_l01New_r0, spec_l01New_c0, lt_nat_true hk, zero_le_nat, cond_true, toNat_nat, List.getElem?_eq_getElem hk, Option.bind_some, succ_wrap (show k < 4611686018427387904 by omega)]
   cases decide (((k : Nat) : Int) < (4000 : Int))
   · exact .inl ⟨.inl (code, s, ()), rfl, rfl⟩
   · exact .inr ⟨_, rfl, _, rfl⟩) ⟨_, rfl⟩
 rw [show ((0 : Nat) : Int) = (0 : Int) from rfl] at he; rw [he]
 cases e with
 | inr e => exact hq.elim
 | inl e =>
   have hq : e.1 = code := hq; exact ⟨e.2.1, by rw [← hq]; rfl⟩
theorem pick_ok (code : List (Int × Unit)) (at_ seed : Int) (l : List (Int × Unit)) (h : DrawAt code at_) (h0 : 0 < l.length) : ∃ v at' s', spec_l01PickInt code at_ seed l = some (v, code, at', s', ()) ∧ (v, ()) ∈ l ∧ DrawAt code at' := by
 obtain ⟨v, a1, s1, e1, v1, v2, d1⟩ := below_ok code at_ seed ((l.length : Nat) : Int) h (by omega); obtain ⟨k, rfl⟩ := Int.eq_ofNat_of_zero_le v1; have hk : k < l.length := by omega
 unfold spec_l01PickInt; simp only [e1, Option.bind_some, zero_le_nat, cond_true, toNat_nat, List.getElem?_eq_getElem hk]; exact ⟨_, _, _, rfl, List.getElem_mem hk, d1⟩
end Go.TM
