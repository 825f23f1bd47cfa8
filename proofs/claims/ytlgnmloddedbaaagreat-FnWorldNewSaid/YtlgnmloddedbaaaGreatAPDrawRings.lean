/- Drawn rings. -/
import Derived.Test.YtlgnmloddedbaaaGreatAPPDrawRing
set_option linter.unusedSimpArgs false
set_option linter.unusedVariables false
namespace Go.TM
open Go
structure RngsV (rs : List RingR) : Prop where
 some_ : 1 ≤ rs.length
 few : rs.length ≤ 5
 each : ∀ k (hk : k < rs.length), rs[k].1 = ((k + 1 : Nat) : Int) ∧ RingV rs[k].1 rs[k].2.1 ∧ Rising rs[k].2.1 3
theorem rings_inner (code : List (Int × Unit)) (a s : Int) (out : List RingR) (i c : Int) (d : DrawAt code a) : ∃ a' s' m, loopV spec_l15DrawRings_r2 (code, a, s, out, i, c, [], (1 : Int), ()) = some (.inl (code, a', s', out, i, c, m, ())) ∧ Rising m 3 ∧ DrawAt code a' := by
 obtain ⟨e, he, a', s', m, rfl, h1, h2⟩ := loop_inv (round := spec_l15DrawRings_r2) (x := (code, a, s, out, i, c, [], ((0 + 1 : Nat) : Int), ())) 3
   (fun k x => ∃ (a s : Int) (m : List (Int × Unit)), x = (code, a, s, out, i, c, m, ((k + 1 : Nat) : Int), ()) ∧ DrawAt code a ∧ Rising m k)
   (fun e => ∃ (a s : Int) (m : List (Int × Unit)), e = .inl (code, a, s, out, i, c, m, ()) ∧ Rising m 3 ∧ DrawAt code a) (by
     rintro x ⟨a, s, m, rfl, da, rm⟩
     exact ⟨_, by simp only [spec_l15DrawRings_r2, spec_l15DrawRings_c2, dec_false (show ¬ ((3 + 1 : Nat) : Int) ≤ 3 by omega), cond_false], a, s, m, rfl, rm, da⟩) (by
     rintro k x hk ⟨a, s, m, rfl, da, rm⟩
     obtain ⟨b, a2, s2, e2, d2⟩ := once_ok code a s 4 da (by omega); have hml := rm.1; have hs : IntKind.i64.wrap (((k + 1 : Nat) : Int) + (1 : Int)) = ((k + 1 + 1 : Nat) : Int) := by rw [wrap_id] <;> omega
     simp only [spec_l15DrawRings_r2, spec_l15DrawRings_c2, dec_true (show ((k + 1 : Nat) : Int) ≤ 3 by omega), cond_true, e2, Option.bind_some, ble_true (show (List.length m + 1) * 8 ≤ lim by unfold lim; omega), hs]
     cases b
     · exact .inr ⟨_, rfl, a2, s2, m ++ [(((k + 1 : Nat) : Int), ())], rfl, d2, rm.snoc⟩
     · exact .inr ⟨_, rfl, a2, s2, m, rfl, d2, rm.up⟩) ⟨a, s, [], rfl, d, by simp, fun j hj => by simp at hj, fun i j hi => by simp at hi⟩
 exact ⟨a', s', m, he, h1, h2⟩
theorem rise35 {m : List (Int × Unit)} (h : Rising m 3) : Rising m 5 := h.up.up
theorem drawrings_ok (code : List (Int × Unit)) (a s : Int) (d : DrawAt code a) : ∃ rs a' s', spec_l15DrawRings code a s = some (rs, code, a', s', ()) ∧ RngsV rs ∧ DrawAt code a' := by
 obtain ⟨e, he, a', s', rs, rfl, h1, h2⟩ := loop_inv (round := spec_l15DrawRings_r0) (x := (code, a, s, [], ((0 : Nat) : Int), ())) 5
   (fun k x => ∃ (a s : Int) (rs : List RingR), x = (code, a, s, rs, ((k : Nat) : Int), ()) ∧ DrawAt code a ∧ rs.length = k ∧ ∀ j (hj : j < rs.length), rs[j].1 = ((j + 1 : Nat) : Int) ∧ RingV rs[j].1 rs[j].2.1 ∧ Rising rs[j].2.1 3)
   (fun e => ∃ (a s : Int) (rs : List RingR), e = .inl (code, a, s, rs, ()) ∧ RngsV rs ∧ DrawAt code a) (by
     rintro x ⟨a, s, rs, rfl, da, hl, hr⟩
     obtain ⟨b, a2, s2, e2, b1, b2, d2⟩ := below_ok code a s 5 da (by omega); exact ⟨_, by simp only [spec_l15DrawRings_r0, spec_l15DrawRings_c0, e2, Option.bind_some, wrap_id (show -9223372036854775808 ≤ 1 + b by omega) (by omega), dec_false (show ¬ ((5 : Nat) : Int) < 1 + b by omega), cond_false], a2, s2, rs, rfl, ⟨by omega, by omega, hr⟩, d2⟩) (by
     rintro k x hk ⟨a, s, rs, rfl, da, hl, hr⟩
     obtain ⟨b, a2, s2, e2, b1, b2, d2⟩ := below_ok code a s 5 da (by omega); simp only [spec_l15DrawRings_r0, spec_l15DrawRings_c0, e2, Option.bind_some, wrap_id (show -9223372036854775808 ≤ 1 + b by omega) (by omega)]
     by_cases hb : ((k : Nat) : Int) < 1 + b
     case neg =>
       rw [dec_false hb]; exact .inl ⟨_, rfl, a2, s2, rs, rfl, ⟨by omega, by omega, hr⟩, d2⟩
     obtain ⟨a3, s3, m, e3, rm, d3⟩ := rings_inner code a2 s2 rs ((k : Nat) : Int) ((k + 1 : Nat) : Int) d2; have more : ∀ (a s : Int) (m : List (Int × Unit)), DrawAt code a → 1 ≤ m.length → Rising m 3 → ∃ y, (some (.inl (code, a, s, rs ++ [(((k + 1 : Nat) : Int), m, ())], ((k + 1 : Nat) : Int), ())) : Option (Sum _ (Sum (List (Int × Unit) × Int × Int × List RingR × Unit) Unit))) = some (.inl y) ∧ ∃ (a s : Int) (rs : List RingR), y = (code, a, s, rs, ((k + 1 : Nat) : Int), ()) ∧ DrawAt code a ∧ rs.length = k + 1 ∧ ∀ j (hj : j < rs.length), rs[j].1 = ((j + 1 : Nat) : Int) ∧ RingV rs[j].1 rs[j].2.1 ∧ Rising rs[j].2.1 3 := fun a s m da h1 rm => ⟨_, rfl, a, s, _, rfl, da, by rw [List.length_append, hl]; rfl, fun j hj => by
       rw [List.length_append, List.length_singleton] at hj
       by_cases e : j < rs.length
       · rw [List.getElem_append_left e]; exact hr j e
       · have : j = rs.length := by omega
         subst this; rw [List.getElem_append_right (Nat.le_refl _)]; simp only [Nat.sub_self, List.getElem_cons_zero]; exact ⟨by rw [hl], ⟨by omega, by omega, h1, rise35 rm⟩, rm⟩⟩
     simp only [dec_true hb, cond_true, succ_wrap (show k < 4611686018427387904 by omega), e3, outK_inl]; have hble : Nat.ble ((rs.length + 1) * 32) lim = true := ble_true (by rw [hl]; unfold lim; omega)
     by_cases h0 : ((List.length m : Nat) : Int) = 0
     · obtain ⟨v, a4, s4, e4, v1, v2, d4⟩ := below_ok code a3 s3 3 d3 (by omega); simp only [dec_true h0, cond_true, e4, Option.bind_some, hble, wrap_id (show -9223372036854775808 ≤ 1 + v by omega) (by omega)]; exact .inr (more a4 s4 [(1 + v, ())] d4 (by simp) ⟨by simp, fun j hj => by
         have : j = 0 := by simp at hj; omega
         subst this; exact ⟨by show 1 ≤ 1 + v; omega, by show 1 + v ≤ 3; omega⟩, fun i j hi hj hij => by simp at hi hj; omega⟩)
     · simp only [dec_false h0, cond_false, hble, cond_true]; exact .inr (more a3 s3 m d3 (by omega) rm)) ⟨a, s, [], rfl, d, rfl, fun j hj => by simp at hj⟩
 have he : loopV spec_l15DrawRings_r0 (code, a, s, [], (0 : Int), ()) = _ := he; refine ⟨rs, a', s', ?_, h1, h2⟩; unfold spec_l15DrawRings; rw [he]; rfl
end Go.TM
