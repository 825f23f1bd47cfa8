/- Give, Number, MateNew: of the program and of the reference. -/
import Derived.Test.YtiljcjnnhkidbaaCPHear
set_option linter.unusedSimpArgs false
set_option linter.unusedVariables false
namespace Go.TM
open Go
def NumOut {A B C : Type} (P : A → Prop) : Sum A B → Sum A C → Prop
 | .inl a, .inl b => a = b ∧ P a
 | _, _ => False
theorem same_Number' (t0c0 : Int) (t0c1 : Int) (t0c2 : Int) (t0c3 : Int) (t0c4 : Int) (t0c5 : List (Int × Unit)) (from_1 : Int) (level2 : List (Int × Unit)) (texts3 : List (ByteArray × Unit)) (h0 : List.length t0c5 ≤ 1048576) : ∃ o0 o1 o2 o3 o4 o5 o6, spec_Number t0c0 t0c1 t0c2 t0c3 t0c4 t0c5 from_1 level2 texts3 = some (o0, o1, o2, o3, o4, o5, o6, ()) ∧ impl_Number t0c0 t0c1 t0c2 t0c3 t0c4 t0c5 from_1 level2 texts3 = some (o0, o1, o2, o3, o4, o5, o6, ()) ∧ o5 = t0c5 ∧ (List.length o6 + wl W_iiis o6) ≤ 1048576 := by
 obtain ⟨b, k1, k2, k3⟩ := token_same t0c0 t0c1 t0c2 t0c3 t0c4 t0c5 (by omega); obtain ⟨c1, c2⟩ := copyToken_eq t0c0 t0c1 t0c2 t0c3 t0c4 t0c5 (by omega); have hm : (if (3 : Int) < ((List.length texts3 : Nat) : Int) then (3 : Int) else ((List.length texts3 : Nat) : Int)) = ((min 3 texts3.length : Nat) : Int) := by split <;> omega
 unfold spec_Number impl_Number; simp only [k1, k2, c1, c2, in_eq, daemon_eq, Option.bind_some]
 cases b
 · cases (decide (1 ≤ from_1) && decide (from_1 ≤ 5))
   · exact ⟨_, _, _, _, _, t0c5, [], rfl, rfl, rfl, by decide⟩
   · exact ⟨_, _, _, _, _, t0c5, [], rfl, rfl, rfl, by decide⟩
 cases (decide (1 ≤ from_1) && decide (from_1 ≤ 5))
 · exact ⟨_, _, _, _, _, t0c5, [], rfl, rfl, rfl, by decide⟩
 obtain ⟨z1, z2, z3, z4, z5, z6⟩ := k3 rfl; have hml : (texts3.take (min 3 texts3.length)).length = min 3 texts3.length := by simp
 simp only [Bool.not_true, cond_false, hm, toNat_nat, zero_le_nat, cond_true, List.drop_zero, hml, dec_true (show ((min 3 texts3.length : Nat) : Int) ≤ ((List.length texts3 : Nat) : Int) by omega)]; obtain ⟨e, f, g1, g2, g3⟩ : ∃ e f, loopV spec_Number_r0 (from_1, level2, texts3, t0c0, t0c1, t0c2, t0c3, t0c4, t0c5, (0 : Int), (0 : Int), (0 : Int), (0 : Int), (0 : Int), [], t0c0, t0c1, t0c2, t0c3, t0c4, t0c5, [], (0 : Int), ()) = some e ∧
     loopV impl_Number_r0 (from_1, level2, t0c0, t0c1, t0c2, t0c3, t0c4, t0c5, (0 : Int), (0 : Int), (0 : Int), (0 : Int), (0 : Int), [], t0c0, t0c1, t0c2, t0c3, t0c4, t0c5, [], texts3.take (min 3 texts3.length), ((min 3 texts3.length : Nat) : Int), (0 : Int), ()) = some f ∧
     NumOut (fun v => ∃ (q : Int) (l : ItemL), v = (t0c0, t0c1, t0c2, t0c3, t0c4, t0c5, (0 : Int), (0 : Int), (0 : Int), (0 : Int), (0 : Int), [], t0c0, t0c1, q, t0c3, t0c4, t0c5, l, ()) ∧ l.length ≤ 3 ∧ wl W_iiis l ≤ 180) e f := by
   refine loop_two 3 (fun k x y => ∃ l : ItemL, x = (from_1, level2, texts3, t0c0, t0c1, t0c2, t0c3, t0c4, t0c5, (0 : Int), (0 : Int), (0 : Int), (0 : Int), (0 : Int), [], t0c0, t0c1, t0c2 + ((k : Nat) : Int), t0c3, t0c4, t0c5, l, ((k : Nat) : Int), ()) ∧
     y = (from_1, level2, t0c0, t0c1, t0c2, t0c3, t0c4, t0c5, (0 : Int), (0 : Int), (0 : Int), (0 : Int), (0 : Int), [], t0c0, t0c1, t0c2 + ((k : Nat) : Int), t0c3, t0c4, t0c5, l, texts3.take (min 3 texts3.length), ((min 3 texts3.length : Nat) : Int), ((k : Nat) : Int), ()) ∧ l.length = k ∧ wl W_iiis l ≤ 60 * k) _ ?_ ⟨[], by rw [show t0c2 + ((0 : Nat) : Int) = t0c2 by omega]; rfl, by rw [show t0c2 + ((0 : Nat) : Int) = t0c2 by omega]; rfl, rfl, Nat.le_refl _⟩
   rintro k x y hk ⟨l, rfl, rfl, q1, q2⟩
   have stop : ∀ {A B : Type} (u : Sum _ A) (v : Sum _ B), u = .inl (t0c0, t0c1, t0c2, t0c3, t0c4, t0c5, (0 : Int), (0 : Int), (0 : Int), (0 : Int), (0 : Int), ([] : List (Int × Unit)), t0c0, t0c1, t0c2 + ((k : Nat) : Int), t0c3, t0c4, t0c5, l, ()) → v = .inl (t0c0, t0c1, t0c2, t0c3, t0c4, t0c5, (0 : Int), (0 : Int), (0 : Int), (0 : Int), (0 : Int), ([] : List (Int × Unit)), t0c0, t0c1, t0c2 + ((k : Nat) : Int), t0c3, t0c4, t0c5, l, ()) →
       NumOut (fun v => ∃ (q : Int) (l : ItemL), v = (t0c0, t0c1, t0c2, t0c3, t0c4, t0c5, (0 : Int), (0 : Int), (0 : Int), (0 : Int), (0 : Int), ([] : List (Int × Unit)), t0c0, t0c1, q, t0c3, t0c4, t0c5, l, ()) ∧ l.length ≤ 3 ∧ wl W_iiis l ≤ 180) u v := by
     intro A B u v e1 e2; subst e1 e2; exact ⟨rfl, _, l, rfl, by omega, by omega⟩
   by_cases h1 : k < texts3.length
   · by_cases h4 : k < 3
     · have hmk : k < min 3 texts3.length := by omega
       have htk : (texts3.take (min 3 texts3.length))[k]? = some texts3[k] := by rw [List.getElem?_take_of_lt hmk]; exact List.getElem?_eq_getElem h1
       have e1 : IntKind.i64.wrap ((t0c2 + ((k : Nat) : Int)) + (1 : Int)) = t0c2 + ((k + 1 : Nat) : Int) := by rw [wrap_id] <;> omega
       simp only [spec_Number_r0, spec_Number_c0, impl_Number_r0, impl_Number_c0, lt_nat_true h1, lt_nat_true hmk, dec_true (show ((k : Nat) : Int) < (3 : Int) by omega), zero_le_nat, cond_true, toNat_nat, List.getElem?_eq_getElem h1, htk, Option.bind_some, e1, ble_true (show (l.length + 1) * 40 ≤ lim by unfold lim; omega), succ_wrap (show k < 4611686018427387904 by omega)]
       by_cases h5 : t0c2 + ((k : Nat) : Int) < 60
       · rw [dec_true h5, dec_false (show ¬ (60 : Int) ≤ t0c2 + ((k : Nat) : Int) by omega)]
         by_cases h6 : ((ByteArray.size texts3[k].1 : Nat) : Int) ≤ 60
         · rw [dec_true h6, dec_false (show ¬ (60 : Int) < ((ByteArray.size texts3[k].1 : Nat) : Int) by omega)]; have add : ∀ lv : Int, wl W_iiis (l ++ [(t0c2 + ((k + 1 : Nat) : Int), from_1, lv, texts3[k].1, ())]) ≤ 60 * (k + 1) := by
             intro lv; rw [wl_app]; have : wl W_iiis [(t0c2 + ((k + 1 : Nat) : Int), from_1, lv, texts3[k].1, ())] = ByteArray.size texts3[k].1 := rfl; omega
           by_cases h7 : k < level2.length
           · rw [lt_nat_true h7]; simp only [cond_true, cond_false, List.getElem?_eq_getElem h7, Option.bind_some]
             cases decide (level2[k].1 = 2)
             · exact .inr ⟨h4, _, _, rfl, rfl, _, rfl, rfl, by simp [q1], add 1⟩
             · exact .inr ⟨h4, _, _, rfl, rfl, _, rfl, rfl, by simp [q1], add 2⟩
           · rw [dec_false (show ¬ ((k : Nat) : Int) < ((List.length level2 : Nat) : Int) by omega)]; exact .inr ⟨h4, _, _, rfl, rfl, _, rfl, rfl, by simp [q1], add 1⟩
         · rw [dec_false h6, dec_true (show (60 : Int) < ((ByteArray.size texts3[k].1 : Nat) : Int) by omega)]; exact .inl ⟨_, _, rfl, rfl, stop _ _ rfl rfl⟩
       · rw [dec_false h5, dec_true (show (60 : Int) ≤ t0c2 + ((k : Nat) : Int) by omega)]; exact .inl ⟨_, _, rfl, rfl, stop _ _ rfl rfl⟩
     · have hk3 : k = 3 := by omega
       refine .inl ⟨_, _, ?_, ?_, stop _ _ rfl rfl⟩
       · simp only [spec_Number_r0, spec_Number_c0, lt_nat_true h1, dec_false (show ¬ ((k : Nat) : Int) < (3 : Int) by omega), cond_true, cond_false]
       · simp only [impl_Number_r0, impl_Number_c0, dec_false (show ¬ ((k : Nat) : Int) < ((min 3 texts3.length : Nat) : Int) by omega), cond_false]
   · refine .inl ⟨_, _, ?_, ?_, stop _ _ rfl rfl⟩
     · simp only [spec_Number_r0, spec_Number_c0, dec_false (show ¬ ((k : Nat) : Int) < ((List.length texts3 : Nat) : Int) by omega), cond_false]
     · simp only [impl_Number_r0, impl_Number_c0, dec_false (show ¬ ((k : Nat) : Int) < ((min 3 texts3.length : Nat) : Int) by omega), cond_false]
 rw [g1, g2]
 cases e with
 | inr e => exact g3.elim
 | inl e => cases f with
   | inr f => exact g3.elim
   | inl f =>
     obtain ⟨rfl, q, l, rfl, q1, q2⟩ := g3; simp only [outK_inl]
     cases decide (t0c3 = t0c2)
     · exact ⟨_, _, _, _, _, t0c5, l, rfl, rfl, rfl, by omega⟩
     · cases decide (t0c4 = 0)
       · exact ⟨_, _, _, _, _, t0c5, l, rfl, rfl, rfl, by omega⟩
       · exact ⟨_, _, _, _, _, t0c5, l, rfl, rfl, rfl, by omega⟩
end Go.TM
