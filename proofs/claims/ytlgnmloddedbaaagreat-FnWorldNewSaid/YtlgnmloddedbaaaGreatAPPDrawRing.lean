/- Rings that are drawn are right. -/
import Derived.Test.YtlgnmloddedbaaaGreatAPDraw
set_option linter.unusedSimpArgs false
set_option linter.unusedVariables false
namespace Go.TM
open Go
def Rising (xs : List (Int × Unit)) (m : Nat) : Prop := xs.length ≤ m ∧ (∀ j (hj : j < xs.length), 1 ≤ xs[j].1 ∧ xs[j].1 ≤ ((m : Nat) : Int)) ∧ ∀ i j (hi : i < xs.length) (hj : j < xs.length), i < j → xs[i].1 < xs[j].1
theorem Rising.snoc {xs : List (Int × Unit)} {m : Nat} (h : Rising xs m) : Rising (xs ++ [(((m + 1 : Nat) : Int), ())]) (m + 1) := by
 obtain ⟨h1, h2, h3⟩ := h; refine ⟨by simp; omega, fun j hj => ?_, fun i j hi hj hij => ?_⟩
 · by_cases hx : j < xs.length
   · rw [List.getElem_append_left hx]; have := h2 j hx; omega
   · have : j = xs.length := by simp at hj; omega
     subst this; simp; omega
 · by_cases hx : j < xs.length
   · rw [List.getElem_append_left hx, List.getElem_append_left (by omega)]; exact h3 i j (by omega) hx hij
   · have hj' : j = xs.length := by simp at hj; omega
     subst hj'; have hi' : i < xs.length := hij; rw [List.getElem_append_left hi']; have := h2 i hi'; simp; omega
theorem Rising.up {xs : List (Int × Unit)} {m : Nat} (h : Rising xs m) : Rising xs (m + 1) :=
 ⟨by have := h.1; omega, fun j hj => by have := h.2.1 j hj; omega, h.2.2⟩
structure RingV (c : Int) (xs : List (Int × Unit)) : Prop where
 id1 : 1 ≤ c
 id2 : c ≤ 9
 some_ : 1 ≤ xs.length
 rising : Rising xs 5
theorem RingV.len {c : Int} {xs : List (Int × Unit)} (h : RingV c xs) : xs.length ≤ 5 := h.rising.1
def RingDraw {B : Type} (code : List (Int × Unit)) (c : Int) : Sum ((List (Int × Unit)) × Int × Int × Int × (List (Int × Unit)) × Int × (List (Int × Unit)) × Unit) B → Prop
 | .inl y => y.1 = code ∧ DrawAt code y.2.1 ∧ y.2.2.2.2.2.1 = c ∧ Rising y.2.2.2.2.2.2.1 4
 | .inr _ => False
theorem l09ring_ok (code : List (Int × Unit)) (at_ seed : Int) (h : DrawAt code at_) : ∃ c xs at' s', spec_l09Ring code at_ seed = some (c, xs, code, at', s', ()) ∧ RingV c xs ∧ c ≤ 3 ∧ Rising xs 4 ∧ DrawAt code at' := by
 obtain ⟨v, a1, s1, e1, v1, v2, d1⟩ := below_ok code at_ seed 3 h (by omega); unfold spec_l09Ring; rw [e1]; simp only [Option.bind_some]; have hw : IntKind.i64.wrap ((1 : Int) + v) = 1 + v := wrap_id (by omega) (by omega); rw [hw]; obtain ⟨e, he, hq⟩ := loop_inv (round := spec_l09Ring_r0) (x := (code, a1, s1, (0 : Int), [], 1 + v, [], ((1 : Nat) : Int), ())) 4 (fun k x => ∃ (a s : Int) (m : List (Int × Unit)), x = (code, a, s, (0 : Int), [], 1 + v, m, ((k + 1 : Nat) : Int), ()) ∧ DrawAt code a ∧ Rising m k)
   (RingDraw code (1 + v)) (by
   rintro x ⟨a, s, m, rfl, da, rm⟩
   exact ⟨.inl (code, a, s, 0, [], 1 + v, m, ()), by simp only [spec_l09Ring_r0, spec_l09Ring_c0, dec_false (show ¬ ((4 + 1 : Nat) : Int) ≤ 4 by omega), cond_false], rfl, da, rfl, rm⟩) (by
   rintro k x hk ⟨a, s, m, rfl, da, rm⟩
   obtain ⟨b, a2, s2, e2, d2⟩ := once_ok code a s 3 da (by omega); have hml := rm.1; have hs : IntKind.i64.wrap (((k + 1 : Nat) : Int) + (1 : Int)) = ((k + 1 + 1 : Nat) : Int) := by rw [wrap_id] <;> omega
   simp only [spec_l09Ring_r0, spec_l09Ring_c0, dec_true (show ((k + 1 : Nat) : Int) ≤ 4 by omega), cond_true, e2, Option.bind_some, ble_true (show (List.length m + 1) * 8 ≤ lim by unfold lim; omega), hs]
   cases b
   · exact .inr ⟨_, rfl, a2, s2, m ++ [(((k + 1 : Nat) : Int), ())], rfl, d2, rm.snoc⟩
   · exact .inr ⟨_, rfl, a2, s2, m, rfl, d2, rm.up⟩) ⟨a1, s1, [], rfl, d1, by simp, fun j hj => by simp at hj, fun i j hi => by simp at hi⟩
 have he : loopV spec_l09Ring_r0 (code, a1, s1, (0 : Int), [], 1 + v, [], (1 : Int), ()) = some e := he; rw [he]
 cases e with
 | inr e => exact hq.elim
 | inl e =>
   obtain ⟨y1, y2, y3, y4, y5, y6, y7, _⟩ := e; obtain ⟨q1, q2, q3, q4⟩ := hq; simp only at q1 q2 q3 q4; subst q1 q3; simp only [outK_inl]; have q5 : Rising y7 5 := q4.up
   by_cases h0 : ((List.length y7 : Nat) : Int) = 0
   · rw [dec_true h0]; have r4 : Rising [((2 : Int), ())] 4 := ⟨by simp, fun j hj => by
       have : j = 0 := by simp at hj; omega
       subst this; simp, fun i j hi hj hij => by simp at hi hj; omega⟩
     exact ⟨_, _, _, _, rfl, ⟨by omega, by omega, by simp, r4.up⟩, by omega, r4, q2⟩
   · rw [dec_false h0]; exact ⟨_, _, _, _, rfl, ⟨by omega, by omega, by omega, q5⟩, by omega, q4, q2⟩
end Go.TM
