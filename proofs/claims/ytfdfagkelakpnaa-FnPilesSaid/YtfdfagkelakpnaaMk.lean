/- Marks: what the laws write they find again. -/
import Derived.Test.YtfdfagkelakpnaaPMarkText
set_option linter.unusedSimpArgs false
set_option linter.unusedVariables false
namespace Go.TM
open Go

/-! markStringS -/
/-- The marks of one element. -/
noncomputable def elt_StringS (n : Nat) : ByteArray × Unit := (markOf (n + 0), ())
def MkOut_StringS (n a : Nat) {B : Type} : Sum ((List (ByteArray × Unit)) × Int × Unit) B → Prop
  | .inl y => y.2.1 = ((a + 1 * n : Nat) : Int) ∧ y.1.length = n ∧ ∀ j, j < n → y.1[j]? = some (elt_StringS (a + 1 * j))
  | .inr _ => False
theorem mh_StringS (xs : List (ByteArray × Unit)) (a : Nat) (h : List.length xs ≤ 4194304) (ha : a ≤ 1073741824) : ∃ l, laws_markStringS xs ((a : Nat) : Int) = some (((a + 1 * List.length xs : Nat) : Int), l, ()) ∧ laws_heldStringS l ((a : Nat) : Int) = some (((a + 1 * List.length xs : Nat) : Int), ()) ∧ List.length l = List.length xs := by
  obtain ⟨e, he, hq⟩ := loop_inv (round := laws_markStringS_r0) (x := (xs, ((a : Nat) : Int), ((0 : Nat) : Int), ())) xs.length (fun k x => ∃ l : List (ByteArray × Unit), x = (l, ((a + 1 * k : Nat) : Int), ((k : Nat) : Int), ()) ∧ l.length = xs.length ∧ ∀ j, j < k → l[j]? = some (elt_StringS (a + 1 * j)))
    (MkOut_StringS xs.length a) (by
    rintro x ⟨l, rfl, hl, hj⟩
    refine ⟨.inl (l, ((a + 1 * xs.length : Nat) : Int), ()), ?_, rfl, hl, hj⟩
    simp only [laws_markStringS_r0, laws_markStringS_c0, hl, lt_nat_irr, cond_false]) (by
    rintro k x hk ⟨l, rfl, hl, hj⟩
    have hkl : k < l.length := by omega
    refine .inr ⟨_, ?_, l.set k (elt_StringS (a + 1 * k)), rfl, by simp [hl], fun j hj' => ?_⟩
    · have e0 : ((a + 1 * k : Nat) : Int) = ((a + 1 * k + 0 : Nat) : Int) := rfl
      have e1 : IntKind.i64.wrap (((a + 1 * k + 0 : Nat) : Int) + (1 : Int)) = ((a + 1 * k + 1 : Nat) : Int) := by rw [wrap_id] <;> omega
      have ez : ((a + 1 * k + 1 : Nat) : Int) = ((a + 1 * (k + 1) : Nat) : Int) := by omega
      rw [e0]
      simp only [laws_markStringS_r0, laws_markStringS_c0, lt_nat_true hkl, zero_le_nat, cond_true, toNat_nat, List.length_set, blt_true hkl, List.getElem?_eq_getElem hkl, List.getElem?_set_self hkl, List.set_set, Option.bind_some, markOf_eq (show a + 1 * k + 0 < 1099511627776 by omega), e1, ez, succ_wrap (show k < 4611686018427387904 by omega)]
      rfl
    · rw [List.getElem?_set]
      by_cases hjk : k = j
      · subst hjk
        rw [if_pos rfl, if_pos hkl]
      · rw [if_neg hjk]
        exact hj j (by omega)) ⟨xs, rfl, rfl, fun j hj => by omega⟩
  cases e with
  | inr e => exact hq.elim
  | inl e =>
    obtain ⟨q1, q2, q3⟩ := hq
    obtain ⟨l, m, u⟩ := e
    simp only at q1 q2 q3
    subst q1
    refine ⟨l, ?_, ?_, q2⟩
    · unfold laws_markStringS
      rw [show (0 : Int) = ((0 : Nat) : Int) from rfl, he]
      rfl
    · have hl := loop_run (round := laws_heldStringS_r0) (e := .inl (((a + 1 * xs.length : Nat) : Int), ())) xs.length (fun k => (l, ((a + 1 * k : Nat) : Int), ((k : Nat) : Int), ())) (by
        simp only [laws_heldStringS_r0, laws_heldStringS_c0, q2, lt_nat_irr, cond_false]) (fun k hk => by
        have hkl : k < l.length := by omega
        have hk3 : l[k]? = some (markOf (a + 1 * k + 0), ()) := q3 k hk
        have e0 : ((a + 1 * k : Nat) : Int) = ((a + 1 * k + 0 : Nat) : Int) := rfl
        have e1 : IntKind.i64.wrap (((a + 1 * k + 0 : Nat) : Int) + (1 : Int)) = ((a + 1 * k + 1 : Nat) : Int) := by rw [wrap_id] <;> omega
        have ez : ((a + 1 * k + 1 : Nat) : Int) = ((a + 1 * (k + 1) : Nat) : Int) := by omega
        rw [e0]
        simp only [laws_heldStringS_r0, laws_heldStringS_c0, lt_nat_true hkl, zero_le_nat, cond_true, cond_false, toNat_nat, hk3, decide_true, strEq_self, Bool.not_true, Option.bind_some, markOf_eq (show a + 1 * k + 0 < 1099511627776 by omega), e1, ez, succ_wrap (show k < 4611686018427387904 by omega)])
      unfold laws_heldStringS
      have hl : loopV laws_heldStringS_r0 (l, ((a + 1 * 0 : Nat) : Int), (0 : Int), ()) = _ := hl
      rw [Nat.mul_zero, Nat.add_zero] at hl
      rw [hl]
      rfl

/-! markPile -/
theorem mh_Pile (a0c0 : Int) (a0c1 : Int) (a0c2 : List (ByteArray × Unit)) (a : Nat) (h2 : List.length a0c2 ≤ 4194304) (ha : a ≤ 536870912) : ∃ l2, laws_markPile a0c0 a0c1 a0c2 ((a : Nat) : Int) = some (((a + 1 * List.length a0c2 : Nat) : Int), l2, ()) ∧ laws_heldPile a0c0 a0c1 l2 ((a : Nat) : Int) = some (((a + 1 * List.length a0c2 : Nat) : Int), ()) ∧ List.length l2 = List.length a0c2 := by
  obtain ⟨l2, e0, g0, nl2⟩ := mh_StringS a0c2 (a) h2 (by omega)
  refine ⟨l2, ?_, ?_, nl2⟩
  · simp only [laws_markPile, e0, Option.bind_some]
  · simp only [laws_heldPile, g0, Option.bind_some, cond_false, dec_false (show ¬ ((a + 1 * List.length a0c2 : Nat) : Int) < 0 by omega)]

end Go.TM
