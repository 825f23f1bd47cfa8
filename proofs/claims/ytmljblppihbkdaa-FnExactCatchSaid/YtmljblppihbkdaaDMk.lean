/- Marks: what the laws write they find again. -/
import Derived.Test.YtmljblppihbkdaaDPMarkDeep
set_option linter.unusedSimpArgs false
set_option linter.unusedVariables false
namespace Go.TM
open Go

/-! markIntS -/
/-- The marks of one element. -/
noncomputable def elt_IntS (n : Nat) : Int × Unit := (((n + 0 : Nat) : Int), ())
def MkOut_IntS (n a : Nat) {B : Type} : Sum ((List (Int × Unit)) × Int × Unit) B → Prop
  | .inl y => y.2.1 = ((a + 1 * n : Nat) : Int) ∧ y.1.length = n ∧ ∀ j, j < n → y.1[j]? = some (elt_IntS (a + 1 * j))
  | .inr _ => False
theorem mh_IntS (xs : List (Int × Unit)) (a : Nat) (h : List.length xs ≤ 4194304) (ha : a ≤ 1073741824) : ∃ l, laws_markIntS xs ((a : Nat) : Int) = some (((a + 1 * List.length xs : Nat) : Int), l, ()) ∧ laws_heldIntS l ((a : Nat) : Int) = some (((a + 1 * List.length xs : Nat) : Int), ()) ∧ List.length l = List.length xs := by
  obtain ⟨e, he, hq⟩ := loop_inv (round := laws_markIntS_r0) (x := (xs, ((a : Nat) : Int), ((0 : Nat) : Int), ())) xs.length (fun k x => ∃ l : List (Int × Unit), x = (l, ((a + 1 * k : Nat) : Int), ((k : Nat) : Int), ()) ∧ l.length = xs.length ∧ ∀ j, j < k → l[j]? = some (elt_IntS (a + 1 * j)))
    (MkOut_IntS xs.length a) (by
    rintro x ⟨l, rfl, hl, hj⟩
    refine ⟨.inl (l, ((a + 1 * xs.length : Nat) : Int), ()), ?_, rfl, hl, hj⟩
    simp only [laws_markIntS_r0, laws_markIntS_c0, hl, lt_nat_irr, cond_false]) (by
    rintro k x hk ⟨l, rfl, hl, hj⟩
    have hkl : k < l.length := by omega
    refine .inr ⟨_, ?_, l.set k (elt_IntS (a + 1 * k)), rfl, by simp [hl], fun j hj' => ?_⟩
    · have e0 : ((a + 1 * k : Nat) : Int) = ((a + 1 * k + 0 : Nat) : Int) := rfl
      have e1 : IntKind.i64.wrap (((a + 1 * k + 0 : Nat) : Int) + (1 : Int)) = ((a + 1 * k + 1 : Nat) : Int) := by rw [wrap_id] <;> omega
      have ez : ((a + 1 * k + 1 : Nat) : Int) = ((a + 1 * (k + 1) : Nat) : Int) := by omega
      rw [e0]
      simp only [laws_markIntS_r0, laws_markIntS_c0, lt_nat_true hkl, zero_le_nat, cond_true, toNat_nat, List.length_set, blt_true hkl, List.getElem?_eq_getElem hkl, List.getElem?_set_self hkl, List.set_set, Option.bind_some, e1, ez, succ_wrap (show k < 4611686018427387904 by omega)]
      rfl
    · rw [List.getElem?_set]
      by_cases hjk : k = j
      · subst hjk
        rw [if_pos rfl, if_pos hkl]
      · rw [if_neg hjk]
        exact hj j (by omega)) ⟨xs, rfl, rfl, fun j hj => by omega⟩
  cases e with
  | inr e => exact hq.elim
  | inl e =>
    obtain ⟨q1, q2, q3⟩ := hq
    obtain ⟨l, m, u⟩ := e
    simp only at q1 q2 q3
    subst q1
    refine ⟨l, ?_, ?_, q2⟩
    · unfold laws_markIntS
      rw [show (0 : Int) = ((0 : Nat) : Int) from rfl, he]
      rfl
    · have hl := loop_run (round := laws_heldIntS_r0) (e := .inl (((a + 1 * xs.length : Nat) : Int), ())) xs.length (fun k => (l, ((a + 1 * k : Nat) : Int), ((k : Nat) : Int), ())) (by
        simp only [laws_heldIntS_r0, laws_heldIntS_c0, q2, lt_nat_irr, cond_false]) (fun k hk => by
        have hkl : k < l.length := by omega
        have hk3 : l[k]? = some (((a + 1 * k + 0 : Nat) : Int), ()) := q3 k hk
        have e0 : ((a + 1 * k : Nat) : Int) = ((a + 1 * k + 0 : Nat) : Int) := rfl
        have e1 : IntKind.i64.wrap (((a + 1 * k + 0 : Nat) : Int) + (1 : Int)) = ((a + 1 * k + 1 : Nat) : Int) := by rw [wrap_id] <;> omega
        have ez : ((a + 1 * k + 1 : Nat) : Int) = ((a + 1 * (k + 1) : Nat) : Int) := by omega
        rw [e0]
        simp only [laws_heldIntS_r0, laws_heldIntS_c0, lt_nat_true hkl, zero_le_nat, cond_true, cond_false, toNat_nat, hk3, decide_true, strEq_self, Bool.not_true, Option.bind_some, e1, ez, succ_wrap (show k < 4611686018427387904 by omega)])
      unfold laws_heldIntS
      have hl : loopV laws_heldIntS_r0 (l, ((a + 1 * 0 : Nat) : Int), (0 : Int), ()) = _ := hl
      rw [Nat.mul_zero, Nat.add_zero] at hl
      rw [hl]
      rfl

/-! markRing -/
theorem mh_Ring (a0c0 : Int) (a0c1 : List (Int × Unit)) (a : Nat) (h1 : List.length a0c1 ≤ 4194304) (ha : a ≤ 536870912) : ∃ l1, laws_markRing a0c0 a0c1 ((a : Nat) : Int) = some (((a + 1 * List.length a0c1 : Nat) : Int), l1, ()) ∧ laws_heldRing a0c0 l1 ((a : Nat) : Int) = some (((a + 1 * List.length a0c1 : Nat) : Int), ()) ∧ List.length l1 = List.length a0c1 := by
  obtain ⟨l1, e0, g0, nl1⟩ := mh_IntS a0c1 (a) h1 (by omega)
  refine ⟨l1, ?_, ?_, nl1⟩
  · simp only [laws_markRing, e0, Option.bind_some]
  · simp only [laws_heldRing, g0, Option.bind_some, cond_false, dec_false (show ¬ ((a + 1 * List.length a0c1 : Nat) : Int) < 0 by omega)]

/-! markItemS -/
/-- The marks of one element. -/
noncomputable def elt_ItemS (n : Nat) : Int × Int × Int × ByteArray × Unit := (((n + 0 : Nat) : Int), ((n + 1 : Nat) : Int), ((n + 2 : Nat) : Int), markOf (n + 3), ())
def MkOut_ItemS (n a : Nat) {B : Type} : Sum ((List R_iiis) × Int × Unit) B → Prop
  | .inl y => y.2.1 = ((a + 4 * n : Nat) : Int) ∧ y.1.length = n ∧ ∀ j, j < n → y.1[j]? = some (elt_ItemS (a + 4 * j))
  | .inr _ => False
theorem mh_ItemS (xs : List R_iiis) (a : Nat) (h : List.length xs ≤ 4194304) (ha : a ≤ 1073741824) : ∃ l, laws_markItemS xs ((a : Nat) : Int) = some (((a + 4 * List.length xs : Nat) : Int), l, ()) ∧ laws_heldItemS l ((a : Nat) : Int) = some (((a + 4 * List.length xs : Nat) : Int), ()) ∧ List.length l = List.length xs := by
  obtain ⟨e, he, hq⟩ := loop_inv (round := laws_markItemS_r0) (x := (xs, ((a : Nat) : Int), ((0 : Nat) : Int), ())) xs.length (fun k x => ∃ l : List R_iiis, x = (l, ((a + 4 * k : Nat) : Int), ((k : Nat) : Int), ()) ∧ l.length = xs.length ∧ ∀ j, j < k → l[j]? = some (elt_ItemS (a + 4 * j)))
    (MkOut_ItemS xs.length a) (by
    rintro x ⟨l, rfl, hl, hj⟩
    refine ⟨.inl (l, ((a + 4 * xs.length : Nat) : Int), ()), ?_, rfl, hl, hj⟩
    simp only [laws_markItemS_r0, laws_markItemS_c0, hl, lt_nat_irr, cond_false]) (by
    rintro k x hk ⟨l, rfl, hl, hj⟩
    have hkl : k < l.length := by omega
    refine .inr ⟨_, ?_, l.set k (elt_ItemS (a + 4 * k)), rfl, by simp [hl], fun j hj' => ?_⟩
    · have e0 : ((a + 4 * k : Nat) : Int) = ((a + 4 * k + 0 : Nat) : Int) := rfl
      have e1 : IntKind.i64.wrap (((a + 4 * k + 0 : Nat) : Int) + (1 : Int)) = ((a + 4 * k + 1 : Nat) : Int) := by rw [wrap_id] <;> omega
      have e2 : IntKind.i64.wrap (((a + 4 * k + 1 : Nat) : Int) + (1 : Int)) = ((a + 4 * k + 2 : Nat) : Int) := by rw [wrap_id] <;> omega
      have e3 : IntKind.i64.wrap (((a + 4 * k + 2 : Nat) : Int) + (1 : Int)) = ((a + 4 * k + 3 : Nat) : Int) := by rw [wrap_id] <;> omega
      have e4 : IntKind.i64.wrap (((a + 4 * k + 3 : Nat) : Int) + (1 : Int)) = ((a + 4 * k + 4 : Nat) : Int) := by rw [wrap_id] <;> omega
      have ez : ((a + 4 * k + 4 : Nat) : Int) = ((a + 4 * (k + 1) : Nat) : Int) := by omega
      rw [e0]
      simp only [laws_markItemS_r0, laws_markItemS_c0, lt_nat_true hkl, zero_le_nat, cond_true, toNat_nat, List.length_set, blt_true hkl, List.getElem?_eq_getElem hkl, List.getElem?_set_self hkl, List.set_set, Option.bind_some, markOf_eq (show a + 4 * k + 3 < 1099511627776 by omega), e1, e2, e3, e4, ez, succ_wrap (show k < 4611686018427387904 by omega)]
      rfl
    · rw [List.getElem?_set]
      by_cases hjk : k = j
      · subst hjk
        rw [if_pos rfl, if_pos hkl]
      · rw [if_neg hjk]
        exact hj j (by omega)) ⟨xs, rfl, rfl, fun j hj => by omega⟩
  cases e with
  | inr e => exact hq.elim
  | inl e =>
    obtain ⟨q1, q2, q3⟩ := hq
    obtain ⟨l, m, u⟩ := e
    simp only at q1 q2 q3
    subst q1
    refine ⟨l, ?_, ?_, q2⟩
    · unfold laws_markItemS
      rw [show (0 : Int) = ((0 : Nat) : Int) from rfl, he]
      rfl
    · have hl := loop_run (round := laws_heldItemS_r0) (e := .inl (((a + 4 * xs.length : Nat) : Int), ())) xs.length (fun k => (l, ((a + 4 * k : Nat) : Int), ((k : Nat) : Int), ())) (by
        simp only [laws_heldItemS_r0, laws_heldItemS_c0, q2, lt_nat_irr, cond_false]) (fun k hk => by
        have hkl : k < l.length := by omega
        have hk3 : l[k]? = some (((a + 4 * k + 0 : Nat) : Int), ((a + 4 * k + 1 : Nat) : Int), ((a + 4 * k + 2 : Nat) : Int), markOf (a + 4 * k + 3), ()) := q3 k hk
        have e0 : ((a + 4 * k : Nat) : Int) = ((a + 4 * k + 0 : Nat) : Int) := rfl
        have e1 : IntKind.i64.wrap (((a + 4 * k + 0 : Nat) : Int) + (1 : Int)) = ((a + 4 * k + 1 : Nat) : Int) := by rw [wrap_id] <;> omega
        have e2 : IntKind.i64.wrap (((a + 4 * k + 1 : Nat) : Int) + (1 : Int)) = ((a + 4 * k + 2 : Nat) : Int) := by rw [wrap_id] <;> omega
        have e3 : IntKind.i64.wrap (((a + 4 * k + 2 : Nat) : Int) + (1 : Int)) = ((a + 4 * k + 3 : Nat) : Int) := by rw [wrap_id] <;> omega
        have e4 : IntKind.i64.wrap (((a + 4 * k + 3 : Nat) : Int) + (1 : Int)) = ((a + 4 * k + 4 : Nat) : Int) := by rw [wrap_id] <;> omega
        have ez : ((a + 4 * k + 4 : Nat) : Int) = ((a + 4 * (k + 1) : Nat) : Int) := by omega
        rw [e0]
        simp only [laws_heldItemS_r0, laws_heldItemS_c0, lt_nat_true hkl, zero_le_nat, cond_true, cond_false, toNat_nat, hk3, decide_true, strEq_self, Bool.not_true, Option.bind_some, markOf_eq (show a + 4 * k + 3 < 1099511627776 by omega), e1, e2, e3, e4, ez, succ_wrap (show k < 4611686018427387904 by omega)])
      unfold laws_heldItemS
      have hl : loopV laws_heldItemS_r0 (l, ((a + 4 * 0 : Nat) : Int), (0 : Int), ()) = _ := hl
      rw [Nat.mul_zero, Nat.add_zero] at hl
      rw [hl]
      rfl

/-! markStringS -/
/-- The marks of one element. -/
noncomputable def elt_StringS (n : Nat) : ByteArray × Unit := (markOf (n + 0), ())
def MkOut_StringS (n a : Nat) {B : Type} : Sum ((List (ByteArray × Unit)) × Int × Unit) B → Prop
  | .inl y => y.2.1 = ((a + 1 * n : Nat) : Int) ∧ y.1.length = n ∧ ∀ j, j < n → y.1[j]? = some (elt_StringS (a + 1 * j))
  | .inr _ => False
theorem mh_StringS (xs : List (ByteArray × Unit)) (a : Nat) (h : List.length xs ≤ 4194304) (ha : a ≤ 1073741824) : ∃ l, laws_markStringS xs ((a : Nat) : Int) = some (((a + 1 * List.length xs : Nat) : Int), l, ()) ∧ laws_heldStringS l ((a : Nat) : Int) = some (((a + 1 * List.length xs : Nat) : Int), ()) ∧ List.length l = List.length xs := by
  obtain ⟨e, he, hq⟩ := loop_inv (round := laws_markStringS_r0) (x := (xs, ((a : Nat) : Int), ((0 : Nat) : Int), ())) xs.length (fun k x => ∃ l : List (ByteArray × Unit), x = (l, ((a + 1 * k : Nat) : Int), ((k : Nat) : Int), ()) ∧ l.length = xs.length ∧ ∀ j, j < k → l[j]? = some (elt_StringS (a + 1 * j)))
    (MkOut_StringS xs.length a) (by
    rintro x ⟨l, rfl, hl, hj⟩
    refine ⟨.inl (l, ((a + 1 * xs.length : Nat) : Int), ()), ?_, rfl, hl, hj⟩
    simp only [laws_markStringS_r0, laws_markStringS_c0, hl, lt_nat_irr, cond_false]) (by
    rintro k x hk ⟨l, rfl, hl, hj⟩
    have hkl : k < l.length := by omega
    refine .inr ⟨_, ?_, l.set k (elt_StringS (a + 1 * k)), rfl, by simp [hl], fun j hj' => ?_⟩
    · have e0 : ((a + 1 * k : Nat) : Int) = ((a + 1 * k + 0 : Nat) : Int) := rfl
      have e1 : IntKind.i64.wrap (((a + 1 * k + 0 : Nat) : Int) + (1 : Int)) = ((a + 1 * k + 1 : Nat) : Int) := by rw [wrap_id] <;> omega
      have ez : ((a + 1 * k + 1 : Nat) : Int) = ((a + 1 * (k + 1) : Nat) : Int) := by omega
      rw [e0]
      simp only [laws_markStringS_r0, laws_markStringS_c0, lt_nat_true hkl, zero_le_nat, cond_true, toNat_nat, List.length_set, blt_true hkl, List.getElem?_eq_getElem hkl, List.getElem?_set_self hkl, List.set_set, Option.bind_some, markOf_eq (show a + 1 * k + 0 < 1099511627776 by omega), e1, ez, succ_wrap (show k < 4611686018427387904 by omega)]
      rfl
    · rw [List.getElem?_set]
      by_cases hjk : k = j
      · subst hjk
        rw [if_pos rfl, if_pos hkl]
      · rw [if_neg hjk]
        exact hj j (by omega)) ⟨xs, rfl, rfl, fun j hj => by omega⟩
  cases e with
  | inr e => exact hq.elim
  | inl e =>
    obtain ⟨q1, q2, q3⟩ := hq
    obtain ⟨l, m, u⟩ := e
    simp only at q1 q2 q3
    subst q1
    refine ⟨l, ?_, ?_, q2⟩
    · unfold laws_markStringS
      rw [show (0 : Int) = ((0 : Nat) : Int) from rfl, he]
      rfl
    · have hl := loop_run (round := laws_heldStringS_r0) (e := .inl (((a + 1 * xs.length : Nat) : Int), ())) xs.length (fun k => (l, ((a + 1 * k : Nat) : Int), ((k : Nat) : Int), ())) (by
        simp only [laws_heldStringS_r0, laws_heldStringS_c0, q2, lt_nat_irr, cond_false]) (fun k hk => by
        have hkl : k < l.length := by omega
        have hk3 : l[k]? = some (markOf (a + 1 * k + 0), ()) := q3 k hk
        have e0 : ((a + 1 * k : Nat) : Int) = ((a + 1 * k + 0 : Nat) : Int) := rfl
        have e1 : IntKind.i64.wrap (((a + 1 * k + 0 : Nat) : Int) + (1 : Int)) = ((a + 1 * k + 1 : Nat) : Int) := by rw [wrap_id] <;> omega
        have ez : ((a + 1 * k + 1 : Nat) : Int) = ((a + 1 * (k + 1) : Nat) : Int) := by omega
        rw [e0]
        simp only [laws_heldStringS_r0, laws_heldStringS_c0, lt_nat_true hkl, zero_le_nat, cond_true, cond_false, toNat_nat, hk3, decide_true, strEq_self, Bool.not_true, Option.bind_some, markOf_eq (show a + 1 * k + 0 < 1099511627776 by omega), e1, ez, succ_wrap (show k < 4611686018427387904 by omega)])
      unfold laws_heldStringS
      have hl : loopV laws_heldStringS_r0 (l, ((a + 1 * 0 : Nat) : Int), (0 : Int), ()) = _ := hl
      rw [Nat.mul_zero, Nat.add_zero] at hl
      rw [hl]
      rfl

/-! markToken -/
theorem mh_Token (a0c0 : Int) (a0c1 : Int) (a0c2 : Int) (a0c3 : Int) (a0c4 : Int) (a0c5 : List (Int × Unit)) (a : Nat) (h5 : List.length a0c5 ≤ 4194304) (ha : a ≤ 536870912) : ∃ l5, laws_markToken a0c0 a0c1 a0c2 a0c3 a0c4 a0c5 ((a : Nat) : Int) = some (((a + 1 * List.length a0c5 : Nat) : Int), l5, ()) ∧ laws_heldToken a0c0 a0c1 a0c2 a0c3 a0c4 l5 ((a : Nat) : Int) = some (((a + 1 * List.length a0c5 : Nat) : Int), ()) ∧ List.length l5 = List.length a0c5 := by
  obtain ⟨l5, e0, g0, nl5⟩ := mh_IntS a0c5 (a) h5 (by omega)
  refine ⟨l5, ?_, ?_, nl5⟩
  · simp only [laws_markToken, e0, Option.bind_some]
  · simp only [laws_heldToken, g0, Option.bind_some, cond_false, dec_false (show ¬ ((a + 1 * List.length a0c5 : Nat) : Int) < 0 by omega)]

/-! markMate -/
theorem mh_Mate (a0c0 : Int) (a0c1 : Int) (a0c2 : List (Int × Unit)) (a0c3 : List R_iiis) (a0c4 : List (Int × Unit)) (a0c5 : List (ByteArray × Unit)) (a0c6 : Int) (a0c7 : Int) (a0c8 : Int) (a0c9 : Int) (a0c10 : Int) (a0c11 : Int) (a0c12 : Int) (a0c13 : Int) (a0c14 : Int) (a0c15 : List (Int × Unit)) (a : Nat) (h2 : List.length a0c2 ≤ 4194304) (h3 : List.length a0c3 ≤ 4194304) (h4 : List.length a0c4 ≤ 4194304) (h5 : List.length a0c5 ≤ 4194304) (h15 : List.length a0c15 ≤ 4194304) (ha : a ≤ 268435456) : ∃ l2 l3 l4 l5 l15, laws_markMate a0c0 a0c1 a0c2 a0c3 a0c4 a0c5 a0c6 a0c7 a0c8 a0c9 a0c10 a0c11 a0c12 a0c13 a0c14 a0c15 ((a : Nat) : Int) = some (((a + 1 * List.length a0c2 + 4 * List.length a0c3 + 1 * List.length a0c4 + 1 * List.length a0c5 + 1 * List.length a0c15 : Nat) : Int), l2, l3, l4, l5, l15, ()) ∧ laws_heldMate a0c0 a0c1 l2 l3 l4 l5 a0c6 a0c7 a0c8 a0c9 a0c10 a0c11 a0c12 a0c13 a0c14 l15 ((a : Nat) : Int) = some (((a + 1 * List.length a0c2 + 4 * List.length a0c3 + 1 * List.length a0c4 + 1 * List.length a0c5 + 1 * List.length a0c15 : Nat) : Int), ()) ∧ List.length l2 = List.length a0c2 ∧ List.length l3 = List.length a0c3 ∧ List.length l4 = List.length a0c4 ∧ List.length l5 = List.length a0c5 ∧ List.length l15 = List.length a0c15 := by
  obtain ⟨l2, e0, g0, nl2⟩ := mh_Ring a0c1 a0c2 (a) h2 (by omega)
  obtain ⟨l3, e1, g1, nl3⟩ := mh_ItemS a0c3 (a + 1 * List.length a0c2) h3 (by omega)
  obtain ⟨l4, e2, g2, nl4⟩ := mh_IntS a0c4 (a + 1 * List.length a0c2 + 4 * List.length a0c3) h4 (by omega)
  obtain ⟨l5, e3, g3, nl5⟩ := mh_StringS a0c5 (a + 1 * List.length a0c2 + 4 * List.length a0c3 + 1 * List.length a0c4) h5 (by omega)
  obtain ⟨l15, e4, g4, nl15⟩ := mh_Token a0c10 a0c11 a0c12 a0c13 a0c14 a0c15 (a + 1 * List.length a0c2 + 4 * List.length a0c3 + 1 * List.length a0c4 + 1 * List.length a0c5) h15 (by omega)
  refine ⟨l2, l3, l4, l5, l15, ?_, ?_, nl2, nl3, nl4, nl5, nl15⟩
  · simp only [laws_markMate, e0, e1, e2, e3, e4, Option.bind_some]
  · simp only [laws_heldMate, g0, g1, g2, g3, g4, Option.bind_some, cond_false, dec_false (show ¬ ((a + 1 * List.length a0c2 : Nat) : Int) < 0 by omega), dec_false (show ¬ ((a + 1 * List.length a0c2 + 4 * List.length a0c3 : Nat) : Int) < 0 by omega), dec_false (show ¬ ((a + 1 * List.length a0c2 + 4 * List.length a0c3 + 1 * List.length a0c4 : Nat) : Int) < 0 by omega), dec_false (show ¬ ((a + 1 * List.length a0c2 + 4 * List.length a0c3 + 1 * List.length a0c4 + 1 * List.length a0c5 : Nat) : Int) < 0 by omega), dec_false (show ¬ ((a + 1 * List.length a0c2 + 4 * List.length a0c3 + 1 * List.length a0c4 + 1 * List.length a0c5 + 1 * List.length a0c15 : Nat) : Int) < 0 by omega)]

end Go.TM
