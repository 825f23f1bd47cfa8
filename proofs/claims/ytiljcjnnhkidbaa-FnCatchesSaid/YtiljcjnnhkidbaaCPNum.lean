/- What a right token numbers. -/
import Derived.Test.YtiljcjnnhkidbaaCPGive
set_option linter.unusedSimpArgs false
set_option linter.unusedVariables false
namespace Go.TM
open Go
def numItem (c2 from_ : Int) (level : List (Int × Unit)) (texts : List (ByteArray × Unit)) (j : Nat) : ItemR :=
 (c2 + ((j + 1 : Nat) : Int), from_, (bif decide (j < level.length) && decide ((level.getD j ((0 : Int), ())).1 = 2) then 2 else 1), (texts.getD j (ByteArray.empty, ())).1, ())
def numItems (c2 from_ : Int) (level : List (Int × Unit)) (texts : List (ByteArray × Unit)) (m : Nat) : ItemL := (List.range m).map (numItem c2 from_ level texts)
theorem numItems_len (c2 from_ : Int) (level : List (Int × Unit)) (texts : List (ByteArray × Unit)) (m : Nat) : (numItems c2 from_ level texts m).length = m := by simp [numItems]
theorem numItems_succ (c2 from_ : Int) (level : List (Int × Unit)) (texts : List (ByteArray × Unit)) (m : Nat) : numItems c2 from_ level texts (m + 1) = numItems c2 from_ level texts m ++ [numItem c2 from_ level texts m] := by
 unfold numItems; rw [List.range_succ, List.map_append]; rfl
def NumMost (c2 : Int) (texts : List (ByteArray × Unit)) (m : Nat) : Prop := m = min 3 texts.length ∨ 60 ≤ c2 + ((m : Nat) : Int) ∨ ∃ h : m < texts.length, 60 < ByteArray.size texts[m].1
theorem number_val (t0c0 : Int) (t0c1 : Int) (t0c2 : Int) (t0c3 : Int) (t0c4 : Int) (t0c5 : List (Int × Unit)) (from_1 : Int) (level2 : List (Int × Unit)) (texts3 : List (ByteArray × Unit)) (h0 : List.length t0c5 ≤ 1048576) (h3 : List.length texts3 ≤ 1048576) (hd : 1 ≤ from_1 ∧ from_1 ≤ 5) (ht : TokP t0c0 t0c1 t0c2 t0c3 t0c4 t0c5) :
   ∃ m t3, impl_Number t0c0 t0c1 t0c2 t0c3 t0c4 t0c5 from_1 level2 texts3 = some (t0c0, t0c1, t0c2 + ((m : Nat) : Int), t3, t0c4, t0c5, numItems t0c2 from_1 level2 texts3 m, ()) ∧ m ≤ 3 ∧ m ≤ texts3.length ∧ t0c2 + ((m : Nat) : Int) ≤ 60 ∧ (t3 = t0c3 ∨ t3 = t0c2 + ((m : Nat) : Int)) ∧ NumMost t0c2 texts3 m ∧ t3 = (if t0c3 = t0c2 ∧ t0c4 = 0 then t0c2 + ((m : Nat) : Int) else t0c3) := by
 obtain ⟨b, _, k2, k3⟩ := token_iff t0c0 t0c1 t0c2 t0c3 t0c4 t0c5 h0; have hb := k3.2 ht; subst hb; obtain ⟨_, c2⟩ := copyToken_eq t0c0 t0c1 t0c2 t0c3 t0c4 t0c5 h0; obtain ⟨_, _, z2, z3, _⟩ := ht; have hm : (if (3 : Int) < ((List.length texts3 : Nat) : Int) then (3 : Int) else ((List.length texts3 : Nat) : Int)) = ((min 3 texts3.length : Nat) : Int) := by split <;> omega
 have hml : (texts3.take (min 3 texts3.length)).length = min 3 texts3.length := by simp
 unfold impl_Number; simp only [k2, c2, daemon_eq, dec_true hd.1, dec_true hd.2, Bool.and_self, Option.bind_some, Bool.not_true, cond_false, hm, toNat_nat, zero_le_nat, cond_true, List.drop_zero, hml, dec_true (show ((min 3 texts3.length : Nat) : Int) ≤ ((List.length texts3 : Nat) : Int) by omega)]; have fin : ∀ (k : Nat), ∃ v : Int × Int × Int × Int × Int × (List (Int × Unit)) × Int × Int × Int × Int × Int × (List (Int × Unit)) × Int × Int × Int × Int × Int × (List (Int × Unit)) × ItemL × Unit, v = (t0c0, t0c1, t0c2, t0c3, t0c4, t0c5, (0 : Int), (0 : Int), (0 : Int), (0 : Int), (0 : Int), [], t0c0, t0c1, t0c2 + ((k : Nat) : Int), t0c3, t0c4, t0c5, numItems t0c2 from_1 level2 texts3 k, ()) := fun k => ⟨_, rfl⟩
 obtain ⟨e, g1, m, g2, g3, g4, g5, g6⟩ : ∃ e, loopV impl_Number_r0 (from_1, level2, t0c0, t0c1, t0c2, t0c3, t0c4, t0c5, (0 : Int), (0 : Int), (0 : Int), (0 : Int), (0 : Int), [], t0c0, t0c1, t0c2, t0c3, t0c4, t0c5, [], texts3.take (min 3 texts3.length), ((min 3 texts3.length : Nat) : Int), (0 : Int), ()) = some e ∧
     ∃ m : Nat, e = .inl (t0c0, t0c1, t0c2, t0c3, t0c4, t0c5, (0 : Int), (0 : Int), (0 : Int), (0 : Int), (0 : Int), [], t0c0, t0c1, t0c2 + ((m : Nat) : Int), t0c3, t0c4, t0c5, numItems t0c2 from_1 level2 texts3 m, ()) ∧ m ≤ 3 ∧ m ≤ texts3.length ∧ t0c2 + ((m : Nat) : Int) ≤ 60 ∧ NumMost t0c2 texts3 m := by
   refine loop_inv (min 3 texts3.length) (fun k x => x = (from_1, level2, t0c0, t0c1, t0c2, t0c3, t0c4, t0c5, (0 : Int), (0 : Int), (0 : Int), (0 : Int), (0 : Int), [], t0c0, t0c1, t0c2 + ((k : Nat) : Int), t0c3, t0c4, t0c5, numItems t0c2 from_1 level2 texts3 k, texts3.take (min 3 texts3.length), ((min 3 texts3.length : Nat) : Int), ((k : Nat) : Int), ()) ∧ t0c2 + ((k : Nat) : Int) ≤ 60) _ ?_ ?_ ⟨by rw [show t0c2 + ((0 : Nat) : Int) = t0c2 by omega]; rfl, by omega⟩
   · rintro x ⟨rfl, q⟩
     exact ⟨_, by simp only [impl_Number_r0, impl_Number_c0, lt_nat_irr, cond_false], _, rfl, by omega, by omega, q, .inl rfl⟩
   · rintro k x hmk ⟨rfl, q⟩
     have h1 : k < texts3.length := by omega
     have htk : (texts3.take (min 3 texts3.length))[k]? = some texts3[k] := by rw [List.getElem?_take_of_lt hmk]; exact List.getElem?_eq_getElem h1
     have hgt : (texts3.getD k (ByteArray.empty, ())).1 = texts3[k].1 := by rw [List.getD_eq_getElem?_getD, List.getElem?_eq_getElem h1, Option.getD_some]
     have stop : NumMost t0c2 texts3 k → ∃ m : Nat, (.inl (t0c0, t0c1, t0c2, t0c3, t0c4, t0c5, (0 : Int), (0 : Int), (0 : Int), (0 : Int), (0 : Int), [], t0c0, t0c1, t0c2 + ((k : Nat) : Int), t0c3, t0c4, t0c5, numItems t0c2 from_1 level2 texts3 k, ()) : Sum _ Unit) = .inl (t0c0, t0c1, t0c2, t0c3, t0c4, t0c5, (0 : Int), (0 : Int), (0 : Int), (0 : Int), (0 : Int), ([] : List (Int × Unit)), t0c0, t0c1, t0c2 + ((m : Nat) : Int), t0c3, t0c4, t0c5, numItems t0c2 from_1 level2 texts3 m, ()) ∧ m ≤ 3 ∧ m ≤ texts3.length ∧ t0c2 + ((m : Nat) : Int) ≤ 60 ∧ NumMost t0c2 texts3 m :=
       fun hq => ⟨k, rfl, by omega, by omega, q, hq⟩
     by_cases h5 : (60 : Int) ≤ t0c2 + ((k : Nat) : Int)
     · refine .inl ⟨_, ?_, stop (.inr (.inl h5))⟩; simp only [impl_Number_r0, impl_Number_c0, lt_nat_true hmk, zero_le_nat, cond_true, toNat_nat, htk, Option.bind_some, dec_true h5]
     have e1 : IntKind.i64.wrap ((t0c2 + ((k : Nat) : Int)) + (1 : Int)) = t0c2 + ((k + 1 : Nat) : Int) := by rw [wrap_id] <;> omega
     by_cases h6 : (60 : Int) < ((ByteArray.size texts3[k].1 : Nat) : Int)
     · refine .inl ⟨_, ?_, stop (.inr (.inr ⟨h1, by omega⟩))⟩; simp only [impl_Number_r0, impl_Number_c0, lt_nat_true hmk, zero_le_nat, cond_true, cond_false, toNat_nat, htk, Option.bind_some, dec_false h5, dec_true h6]
     refine .inr ⟨_, ?_, rfl, by omega⟩; have hlen := numItems_len t0c2 from_1 level2 texts3 k; simp only [impl_Number_r0, impl_Number_c0, lt_nat_true hmk, zero_le_nat, cond_true, cond_false, toNat_nat, htk, Option.bind_some, dec_false h5, dec_false h6, e1, hlen, ble_true (show (k + 1) * 40 ≤ lim by unfold lim; omega), succ_wrap (show k < 4611686018427387904 by omega)]; rw [numItems_succ]; unfold numItem; rw [hgt]
     by_cases h7 : k < level2.length
     · have hgl : level2.getD k ((0 : Int), ()) = level2[k] := by rw [List.getD_eq_getElem?_getD, List.getElem?_eq_getElem h7, Option.getD_some]
       rw [lt_nat_true h7, dec_true h7, hgl]; simp only [cond_true, List.getElem?_eq_getElem h7, Option.bind_some, Bool.true_and]
       cases decide (level2[k].1 = 2) <;> rfl
     · rw [dec_false (show ¬ ((k : Nat) : Int) < ((List.length level2 : Nat) : Int) by omega), dec_false h7]; rfl
 rw [g1]; subst g2; simp only [outK_inl]
 by_cases w1 : t0c3 = t0c2
 · rw [dec_true w1]
   by_cases w2 : t0c4 = 0
   · rw [dec_true w2]; exact ⟨m, _, rfl, g3, g4, g5, .inr rfl, g6, by rw [if_pos ⟨w1, w2⟩]⟩
   · rw [dec_false w2]; exact ⟨m, _, rfl, g3, g4, g5, .inl rfl, g6, by rw [if_neg (fun h => w2 h.2)]⟩
 · rw [dec_false w1]; exact ⟨m, _, rfl, g3, g4, g5, .inl rfl, g6, by rw [if_neg (fun h => w1 h.1)]⟩
end Go.TM
