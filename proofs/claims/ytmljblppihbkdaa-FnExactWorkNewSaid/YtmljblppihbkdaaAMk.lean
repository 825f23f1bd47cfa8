/- Marks: what the laws write they find again. -/
import Derived.Test.YtmljblppihbkdaaAPMarkDeep
set_option linter.unusedSimpArgs false
set_option linter.unusedVariables false
namespace Go.TM
open Go

/-! markIntS -/
/-- The marks of one element. -/
noncomputable def elt_IntS (n : Nat) : Int × Unit := (((n + 0 : Nat) : Int), ())
def MkOut_IntS (n a : Nat) {B : Type} : Sum ((List (Int × Unit)) × Int × Unit) B → Prop
  | .inl y => y.2.1 = ((a + 1 * n : Nat) : Int) ∧ y.1.length = n ∧ ∀ j, j < n → y.1[j]? = some (elt_IntS (a + 1 * j))
  | .inr _ => False
theorem mh_IntS (xs : List (Int × Unit)) (a : Nat) (h : List.length xs ≤ 4194304) (ha : a ≤ 1073741824) : ∃ l, laws_markIntS xs ((a : Nat) : Int) = some (((a + 1 * List.length xs : Nat) : Int), l, ()) ∧ laws_heldIntS l ((a : Nat) : Int) = some (((a + 1 * List.length xs : Nat) : Int), ()) ∧ List.length l = List.length xs := by
  obtain ⟨e, he, hq⟩ := loop_inv (round := laws_markIntS_r0) (x := (xs, ((a : Nat) : Int), ((0 : Nat) : Int), ())) xs.length (fun k x => ∃ l : List (Int × Unit), x = (l, ((a + 1 * k : Nat) : Int), ((k : Nat) : Int), ()) ∧ l.length = xs.length ∧ ∀ j, j < k → l[j]? = some (elt_IntS (a + 1 * j)))
    (MkOut_IntS xs.length a) (by
    rintro x ⟨l, rfl, hl, hj⟩
    refine ⟨.inl (l, ((a + 1 * xs.length : Nat) : Int), ()), ?_, rfl, hl, hj⟩
    simp only [laws_markIntS_r0, laws_markIntS_c0, hl, lt_nat_irr, cond_false]) (by
    rintro k x hk ⟨l, rfl, hl, hj⟩
    have hkl : k < l.length := by omega
    refine .inr ⟨_, ?_, l.set k (elt_IntS (a + 1 * k)), rfl, by simp [hl], fun j hj' => ?_⟩
    · have e0 : ((a + 1 * k : Nat) : Int) = ((a + 1 * k + 0 : Nat) : Int) := rfl
      have e1 : IntKind.i64.wrap (((a + 1 * k + 0 : Nat) : Int) + (1 : Int)) = ((a + 1 * k + 1 : Nat) : Int) := by rw [wrap_id] <;> omega
      have ez : ((a + 1 * k + 1 : Nat) : Int) = ((a + 1 * (k + 1) : Nat) : Int) := by omega
      rw [e0]
      simp only [laws_markIntS_r0, laws_markIntS_c0, lt_nat_true hkl, zero_le_nat, cond_true, toNat_nat, List.length_set, blt_true hkl, List.getElem?_eq_getElem hkl, List.getElem?_set_self hkl, List.set_set, Option.bind_some, e1, ez, succ_wrap (show k < 4611686018427387904 by omega)]
      rfl
    · rw [List.getElem?_set]
      by_cases hjk : k = j
      · subst hjk
        rw [if_pos rfl, if_pos hkl]
      · rw [if_neg hjk]
        exact hj j (by omega)) ⟨xs, rfl, rfl, fun j hj => by omega⟩
  cases e with
  | inr e => exact hq.elim
  | inl e =>
    obtain ⟨q1, q2, q3⟩ := hq
    obtain ⟨l, m, u⟩ := e
    simp only at q1 q2 q3
    subst q1
    refine ⟨l, ?_, ?_, q2⟩
    · unfold laws_markIntS
      rw [show (0 : Int) = ((0 : Nat) : Int) from rfl, he]
      rfl
    · have hl := loop_run (round := laws_heldIntS_r0) (e := .inl (((a + 1 * xs.length : Nat) : Int), ())) xs.length (fun k => (l, ((a + 1 * k : Nat) : Int), ((k : Nat) : Int), ())) (by
        simp only [laws_heldIntS_r0, laws_heldIntS_c0, q2, lt_nat_irr, cond_false]) (fun k hk => by
        have hkl : k < l.length := by omega
        have hk3 : l[k]? = some (((a + 1 * k + 0 : Nat) : Int), ()) := q3 k hk
        have e0 : ((a + 1 * k : Nat) : Int) = ((a + 1 * k + 0 : Nat) : Int) := rfl
        have e1 : IntKind.i64.wrap (((a + 1 * k + 0 : Nat) : Int) + (1 : Int)) = ((a + 1 * k + 1 : Nat) : Int) := by rw [wrap_id] <;> omega
        have ez : ((a + 1 * k + 1 : Nat) : Int) = ((a + 1 * (k + 1) : Nat) : Int) := by omega
        rw [e0]
        simp only [laws_heldIntS_r0, laws_heldIntS_c0, lt_nat_true hkl, zero_le_nat, cond_true, cond_false, toNat_nat, hk3, decide_true, strEq_self, Bool.not_true, Option.bind_some, e1, ez, succ_wrap (show k < 4611686018427387904 by omega)])
      unfold laws_heldIntS
      have hl : loopV laws_heldIntS_r0 (l, ((a + 1 * 0 : Nat) : Int), (0 : Int), ()) = _ := hl
      rw [Nat.mul_zero, Nat.add_zero] at hl
      rw [hl]
      rfl

/-! markRing -/
theorem mh_Ring (a0c0 : Int) (a0c1 : List (Int × Unit)) (a : Nat) (h1 : List.length a0c1 ≤ 4194304) (ha : a ≤ 536870912) : ∃ l1, laws_markRing a0c0 a0c1 ((a : Nat) : Int) = some (((a + 1 * List.length a0c1 : Nat) : Int), l1, ()) ∧ laws_heldRing a0c0 l1 ((a : Nat) : Int) = some (((a + 1 * List.length a0c1 : Nat) : Int), ()) ∧ List.length l1 = List.length a0c1 := by
  obtain ⟨l1, e0, g0, nl1⟩ := mh_IntS a0c1 (a) h1 (by omega)
  refine ⟨l1, ?_, ?_, nl1⟩
  · simp only [laws_markRing, e0, Option.bind_some]
  · simp only [laws_heldRing, g0, Option.bind_some, cond_false, dec_false (show ¬ ((a + 1 * List.length a0c1 : Nat) : Int) < 0 by omega)]

/-! markItemS -/
/-- The marks of one element. -/
noncomputable def elt_ItemS (n : Nat) : Int × Int × Int × ByteArray × Unit := (((n + 0 : Nat) : Int), ((n + 1 : Nat) : Int), ((n + 2 : Nat) : Int), markOf (n + 3), ())
def MkOut_ItemS (n a : Nat) {B : Type} : Sum ((List R_iiis) × Int × Unit) B → Prop
  | .inl y => y.2.1 = ((a + 4 * n : Nat) : Int) ∧ y.1.length = n ∧ ∀ j, j < n → y.1[j]? = some (elt_ItemS (a + 4 * j))
  | .inr _ => False
theorem mh_ItemS (xs : List R_iiis) (a : Nat) (h : List.length xs ≤ 4194304) (ha : a ≤ 1073741824) : ∃ l, laws_markItemS xs ((a : Nat) : Int) = some (((a + 4 * List.length xs : Nat) : Int), l, ()) ∧ laws_heldItemS l ((a : Nat) : Int) = some (((a + 4 * List.length xs : Nat) : Int), ()) ∧ List.length l = List.length xs := by
  obtain ⟨e, he, hq⟩ := loop_inv (round := laws_markItemS_r0) (x := (xs, ((a : Nat) : Int), ((0 : Nat) : Int), ())) xs.length (fun k x => ∃ l : List R_iiis, x = (l, ((a + 4 * k : Nat) : Int), ((k : Nat) : Int), ()) ∧ l.length = xs.length ∧ ∀ j, j < k → l[j]? = some (elt_ItemS (a + 4 * j)))
    (MkOut_ItemS xs.length a) (by
    rintro x ⟨l, rfl, hl, hj⟩
    refine ⟨.inl (l, ((a + 4 * xs.length : Nat) : Int), ()), ?_, rfl, hl, hj⟩
    simp only [laws_markItemS_r0, laws_markItemS_c0, hl, lt_nat_irr, cond_false]) (by
    rintro k x hk ⟨l, rfl, hl, hj⟩
    have hkl : k < l.length := by omega
    refine .inr ⟨_, ?_, l.set k (elt_ItemS (a + 4 * k)), rfl, by simp [hl], fun j hj' => ?_⟩
    · have e0 : ((a + 4 * k : Nat) : Int) = ((a + 4 * k + 0 : Nat) : Int) := rfl
      have e1 : IntKind.i64.wrap (((a + 4 * k + 0 : Nat) : Int) + (1 : Int)) = ((a + 4 * k + 1 : Nat) : Int) := by rw [wrap_id] <;> omega
      have e2 : IntKind.i64.wrap (((a + 4 * k + 1 : Nat) : Int) + (1 : Int)) = ((a + 4 * k + 2 : Nat) : Int) := by rw [wrap_id] <;> omega
      have e3 : IntKind.i64.wrap (((a + 4 * k + 2 : Nat) : Int) + (1 : Int)) = ((a + 4 * k + 3 : Nat) : Int) := by rw [wrap_id] <;> omega
      have e4 : IntKind.i64.wrap (((a + 4 * k + 3 : Nat) : Int) + (1 : Int)) = ((a + 4 * k + 4 : Nat) : Int) := by rw [wrap_id] <;> omega
      have ez : ((a + 4 * k + 4 : Nat) : Int) = ((a + 4 * (k + 1) : Nat) : Int) := by omega
      rw [e0]
      simp only [laws_markItemS_r0, laws_markItemS_c0, lt_nat_true hkl, zero_le_nat, cond_true, toNat_nat, List.length_set, blt_true hkl, List.getElem?_eq_getElem hkl, List.getElem?_set_self hkl, List.set_set, Option.bind_some, markOf_eq (show a + 4 * k + 3 < 1099511627776 by omega), e1, e2, e3, e4, ez, succ_wrap (show k < 4611686018427387904 by omega)]
      rfl
    · rw [List.getElem?_set]
      by_cases hjk : k = j
      · subst hjk
        rw [if_pos rfl, if_pos hkl]
      · rw [if_neg hjk]
        exact hj j (by omega)) ⟨xs, rfl, rfl, fun j hj => by omega⟩
  cases e with
  | inr e => exact hq.elim
  | inl e =>
    obtain ⟨q1, q2, q3⟩ := hq
    obtain ⟨l, m, u⟩ := e
    simp only at q1 q2 q3
    subst q1
    refine ⟨l, ?_, ?_, q2⟩
    · unfold laws_markItemS
      rw [show (0 : Int) = ((0 : Nat) : Int) from rfl, he]
      rfl
    · have hl := loop_run (round := laws_heldItemS_r0) (e := .inl (((a + 4 * xs.length : Nat) : Int), ())) xs.length (fun k => (l, ((a + 4 * k : Nat) : Int), ((k : Nat) : Int), ())) (by
        simp only [laws_heldItemS_r0, laws_heldItemS_c0, q2, lt_nat_irr, cond_false]) (fun k hk => by
        have hkl : k < l.length := by omega
        have hk3 : l[k]? = some (((a + 4 * k + 0 : Nat) : Int), ((a + 4 * k + 1 : Nat) : Int), ((a + 4 * k + 2 : Nat) : Int), markOf (a + 4 * k + 3), ()) := q3 k hk
        have e0 : ((a + 4 * k : Nat) : Int) = ((a + 4 * k + 0 : Nat) : Int) := rfl
        have e1 : IntKind.i64.wrap (((a + 4 * k + 0 : Nat) : Int) + (1 : Int)) = ((a + 4 * k + 1 : Nat) : Int) := by rw [wrap_id] <;> omega
        have e2 : IntKind.i64.wrap (((a + 4 * k + 1 : Nat) : Int) + (1 : Int)) = ((a + 4 * k + 2 : Nat) : Int) := by rw [wrap_id] <;> omega
        have e3 : IntKind.i64.wrap (((a + 4 * k + 2 : Nat) : Int) + (1 : Int)) = ((a + 4 * k + 3 : Nat) : Int) := by rw [wrap_id] <;> omega
        have e4 : IntKind.i64.wrap (((a + 4 * k + 3 : Nat) : Int) + (1 : Int)) = ((a + 4 * k + 4 : Nat) : Int) := by rw [wrap_id] <;> omega
        have ez : ((a + 4 * k + 4 : Nat) : Int) = ((a + 4 * (k + 1) : Nat) : Int) := by omega
        rw [e0]
        simp only [laws_heldItemS_r0, laws_heldItemS_c0, lt_nat_true hkl, zero_le_nat, cond_true, cond_false, toNat_nat, hk3, decide_true, strEq_self, Bool.not_true, Option.bind_some, markOf_eq (show a + 4 * k + 3 < 1099511627776 by omega), e1, e2, e3, e4, ez, succ_wrap (show k < 4611686018427387904 by omega)])
      unfold laws_heldItemS
      have hl : loopV laws_heldItemS_r0 (l, ((a + 4 * 0 : Nat) : Int), (0 : Int), ()) = _ := hl
      rw [Nat.mul_zero, Nat.add_zero] at hl
      rw [hl]
      rfl

/-! markStringS -/
/-- The marks of one element. -/
noncomputable def elt_StringS (n : Nat) : ByteArray × Unit := (markOf (n + 0), ())
def MkOut_StringS (n a : Nat) {B : Type} : Sum ((List (ByteArray × Unit)) × Int × Unit) B → Prop
  | .inl y => y.2.1 = ((a + 1 * n : Nat) : Int) ∧ y.1.length = n ∧ ∀ j, j < n → y.1[j]? = some (elt_StringS (a + 1 * j))
  | .inr _ => False
theorem mh_StringS (xs : List (ByteArray × Unit)) (a : Nat) (h : List.length xs ≤ 4194304) (ha : a ≤ 1073741824) : ∃ l, laws_markStringS xs ((a : Nat) : Int) = some (((a + 1 * List.length xs : Nat) : Int), l, ()) ∧ laws_heldStringS l ((a : Nat) : Int) = some (((a + 1 * List.length xs : Nat) : Int), ()) ∧ List.length l = List.length xs := by
  obtain ⟨e, he, hq⟩ := loop_inv (round := laws_markStringS_r0) (x := (xs, ((a : Nat) : Int), ((0 : Nat) : Int), ())) xs.length (fun k x => ∃ l : List (ByteArray × Unit), x = (l, ((a + 1 * k : Nat) : Int), ((k : Nat) : Int), ()) ∧ l.length = xs.length ∧ ∀ j, j < k → l[j]? = some (elt_StringS (a + 1 * j)))
    (MkOut_StringS xs.length a) (by
    rintro x ⟨l, rfl, hl, hj⟩
    refine ⟨.inl (l, ((a + 1 * xs.length : Nat) : Int), ()), ?_, rfl, hl, hj⟩
    simp only [laws_markStringS_r0, laws_markStringS_c0, hl, lt_nat_irr, cond_false]) (by
    rintro k x hk ⟨l, rfl, hl, hj⟩
    have hkl : k < l.length := by omega
    refine .inr ⟨_, ?_, l.set k (elt_StringS (a + 1 * k)), rfl, by simp [hl], fun j hj' => ?_⟩
    · have e0 : ((a + 1 * k : Nat) : Int) = ((a + 1 * k + 0 : Nat) : Int) := rfl
      have e1 : IntKind.i64.wrap (((a + 1 * k + 0 : Nat) : Int) + (1 : Int)) = ((a + 1 * k + 1 : Nat) : Int) := by rw [wrap_id] <;> omega
      have ez : ((a + 1 * k + 1 : Nat) : Int) = ((a + 1 * (k + 1) : Nat) : Int) := by omega
      rw [e0]
      simp only [laws_markStringS_r0, laws_markStringS_c0, lt_nat_true hkl, zero_le_nat, cond_true, toNat_nat, List.length_set, blt_true hkl, List.getElem?_eq_getElem hkl, List.getElem?_set_self hkl, List.set_set, Option.bind_some, markOf_eq (show a + 1 * k + 0 < 1099511627776 by omega), e1, ez, succ_wrap (show k < 4611686018427387904 by omega)]
      rfl
    · rw [List.getElem?_set]
      by_cases hjk : k = j
      · subst hjk
        rw [if_pos rfl, if_pos hkl]
      · rw [if_neg hjk]
        exact hj j (by omega)) ⟨xs, rfl, rfl, fun j hj => by omega⟩
  cases e with
  | inr e => exact hq.elim
  | inl e =>
    obtain ⟨q1, q2, q3⟩ := hq
    obtain ⟨l, m, u⟩ := e
    simp only at q1 q2 q3
    subst q1
    refine ⟨l, ?_, ?_, q2⟩
    · unfold laws_markStringS
      rw [show (0 : Int) = ((0 : Nat) : Int) from rfl, he]
      rfl
    · have hl := loop_run (round := laws_heldStringS_r0) (e := .inl (((a + 1 * xs.length : Nat) : Int), ())) xs.length (fun k => (l, ((a + 1 * k : Nat) : Int), ((k : Nat) : Int), ())) (by
        simp only [laws_heldStringS_r0, laws_heldStringS_c0, q2, lt_nat_irr, cond_false]) (fun k hk => by
        have hkl : k < l.length := by omega
        have hk3 : l[k]? = some (markOf (a + 1 * k + 0), ()) := q3 k hk
        have e0 : ((a + 1 * k : Nat) : Int) = ((a + 1 * k + 0 : Nat) : Int) := rfl
        have e1 : IntKind.i64.wrap (((a + 1 * k + 0 : Nat) : Int) + (1 : Int)) = ((a + 1 * k + 1 : Nat) : Int) := by rw [wrap_id] <;> omega
        have ez : ((a + 1 * k + 1 : Nat) : Int) = ((a + 1 * (k + 1) : Nat) : Int) := by omega
        rw [e0]
        simp only [laws_heldStringS_r0, laws_heldStringS_c0, lt_nat_true hkl, zero_le_nat, cond_true, cond_false, toNat_nat, hk3, decide_true, strEq_self, Bool.not_true, Option.bind_some, markOf_eq (show a + 1 * k + 0 < 1099511627776 by omega), e1, ez, succ_wrap (show k < 4611686018427387904 by omega)])
      unfold laws_heldStringS
      have hl : loopV laws_heldStringS_r0 (l, ((a + 1 * 0 : Nat) : Int), (0 : Int), ()) = _ := hl
      rw [Nat.mul_zero, Nat.add_zero] at hl
      rw [hl]
      rfl

/-! markMateS -/
/-- How many marks a row takes. -/
def MN_iiLiELiiisELiELsEiiiiiiiiiLiE (x : Int × Int × (List (Int × Unit)) × (List R_iiis) × (List (Int × Unit)) × (List (ByteArray × Unit)) × Int × Int × Int × Int × Int × Int × Int × Int × Int × (List (Int × Unit)) × Unit) : Nat := 1 + 1 + 1 * List.length x.2.2.1 + 4 * List.length x.2.2.2.1 + 1 * List.length x.2.2.2.2.1 + 1 * List.length x.2.2.2.2.2.1 + 1 + 1 + 1 + 1 + 1 + 1 + 1 + 1 + 1 + 1 * List.length x.2.2.2.2.2.2.2.2.2.2.2.2.2.2.2.1
theorem mn_iiLiELiiisELiELsEiiiiiiiiiLiE (x : Int × Int × (List (Int × Unit)) × (List R_iiis) × (List (Int × Unit)) × (List (ByteArray × Unit)) × Int × Int × Int × Int × Int × Int × Int × Int × Int × (List (Int × Unit)) × Unit) : MN_iiLiELiiisELiELsEiiiiiiiiiLiE x ≤ 11 * (1 + W_iiLiELiiisELiELsEiiiiiiiiiLiE x) := by
  unfold MN_iiLiELiiisELiELsEiiiiiiiiiLiE W_iiLiELiiisELiELsEiiiiiiiiiLiE
  omega
theorem mnl_iiLiELiiisELiELsEiiiiiiiiiLiE (xs : List (Int × Int × (List (Int × Unit)) × (List R_iiis) × (List (Int × Unit)) × (List (ByteArray × Unit)) × Int × Int × Int × Int × Int × Int × Int × Int × Int × (List (Int × Unit)) × Unit)) : wl MN_iiLiELiiisELiELsEiiiiiiiiiLiE xs ≤ 11 * (List.length xs + wl W_iiLiELiiisELiELsEiiiiiiiiiLiE xs) := wl_scale _ _ 11 mn_iiLiELiiisELiELsEiiiiiiiiiLiE xs
/-- A row that is marked from a number on. -/
def HD_MateS (x : Int × Int × (List (Int × Unit)) × (List R_iiis) × (List (Int × Unit)) × (List (ByteArray × Unit)) × Int × Int × Int × Int × Int × Int × Int × Int × Int × (List (Int × Unit)) × Unit) (n : Nat) (y : Int × Int × (List (Int × Unit)) × (List R_iiis) × (List (Int × Unit)) × (List (ByteArray × Unit)) × Int × Int × Int × Int × Int × Int × Int × Int × Int × (List (Int × Unit)) × Unit) : Prop := y.1 = ((n : Nat) : Int) ∧ y.2.1 = ((n + 1 : Nat) : Int) ∧ laws_heldIntS y.2.2.1 ((n + 1 + 1 : Nat) : Int) = some (((n + 1 + 1 + 1 * List.length x.2.2.1 : Nat) : Int), ()) ∧ laws_heldItemS y.2.2.2.1 ((n + 1 + 1 + 1 * List.length x.2.2.1 : Nat) : Int) = some (((n + 1 + 1 + 1 * List.length x.2.2.1 + 4 * List.length x.2.2.2.1 : Nat) : Int), ()) ∧ laws_heldIntS y.2.2.2.2.1 ((n + 1 + 1 + 1 * List.length x.2.2.1 + 4 * List.length x.2.2.2.1 : Nat) : Int) = some (((n + 1 + 1 + 1 * List.length x.2.2.1 + 4 * List.length x.2.2.2.1 + 1 * List.length x.2.2.2.2.1 : Nat) : Int), ()) ∧ laws_heldStringS y.2.2.2.2.2.1 ((n + 1 + 1 + 1 * List.length x.2.2.1 + 4 * List.length x.2.2.2.1 + 1 * List.length x.2.2.2.2.1 : Nat) : Int) = some (((n + 1 + 1 + 1 * List.length x.2.2.1 + 4 * List.length x.2.2.2.1 + 1 * List.length x.2.2.2.2.1 + 1 * List.length x.2.2.2.2.2.1 : Nat) : Int), ()) ∧ y.2.2.2.2.2.2.1 = ((n + 1 + 1 + 1 * List.length x.2.2.1 + 4 * List.length x.2.2.2.1 + 1 * List.length x.2.2.2.2.1 + 1 * List.length x.2.2.2.2.2.1 : Nat) : Int) ∧ y.2.2.2.2.2.2.2.1 = ((n + 1 + 1 + 1 * List.length x.2.2.1 + 4 * List.length x.2.2.2.1 + 1 * List.length x.2.2.2.2.1 + 1 * List.length x.2.2.2.2.2.1 + 1 : Nat) : Int) ∧ y.2.2.2.2.2.2.2.2.1 = ((n + 1 + 1 + 1 * List.length x.2.2.1 + 4 * List.length x.2.2.2.1 + 1 * List.length x.2.2.2.2.1 + 1 * List.length x.2.2.2.2.2.1 + 1 + 1 : Nat) : Int) ∧ y.2.2.2.2.2.2.2.2.2.1 = ((n + 1 + 1 + 1 * List.length x.2.2.1 + 4 * List.length x.2.2.2.1 + 1 * List.length x.2.2.2.2.1 + 1 * List.length x.2.2.2.2.2.1 + 1 + 1 + 1 : Nat) : Int) ∧ y.2.2.2.2.2.2.2.2.2.2.1 = ((n + 1 + 1 + 1 * List.length x.2.2.1 + 4 * List.length x.2.2.2.1 + 1 * List.length x.2.2.2.2.1 + 1 * List.length x.2.2.2.2.2.1 + 1 + 1 + 1 + 1 : Nat) : Int) ∧ y.2.2.2.2.2.2.2.2.2.2.2.1 = ((n + 1 + 1 + 1 * List.length x.2.2.1 + 4 * List.length x.2.2.2.1 + 1 * List.length x.2.2.2.2.1 + 1 * List.length x.2.2.2.2.2.1 + 1 + 1 + 1 + 1 + 1 : Nat) : Int) ∧ y.2.2.2.2.2.2.2.2.2.2.2.2.1 = ((n + 1 + 1 + 1 * List.length x.2.2.1 + 4 * List.length x.2.2.2.1 + 1 * List.length x.2.2.2.2.1 + 1 * List.length x.2.2.2.2.2.1 + 1 + 1 + 1 + 1 + 1 + 1 : Nat) : Int) ∧ y.2.2.2.2.2.2.2.2.2.2.2.2.2.1 = ((n + 1 + 1 + 1 * List.length x.2.2.1 + 4 * List.length x.2.2.2.1 + 1 * List.length x.2.2.2.2.1 + 1 * List.length x.2.2.2.2.2.1 + 1 + 1 + 1 + 1 + 1 + 1 + 1 : Nat) : Int) ∧ y.2.2.2.2.2.2.2.2.2.2.2.2.2.2.1 = ((n + 1 + 1 + 1 * List.length x.2.2.1 + 4 * List.length x.2.2.2.1 + 1 * List.length x.2.2.2.2.1 + 1 * List.length x.2.2.2.2.2.1 + 1 + 1 + 1 + 1 + 1 + 1 + 1 + 1 : Nat) : Int) ∧ laws_heldIntS y.2.2.2.2.2.2.2.2.2.2.2.2.2.2.2.1 ((n + 1 + 1 + 1 * List.length x.2.2.1 + 4 * List.length x.2.2.2.1 + 1 * List.length x.2.2.2.2.1 + 1 * List.length x.2.2.2.2.2.1 + 1 + 1 + 1 + 1 + 1 + 1 + 1 + 1 + 1 : Nat) : Int) = some (((n + 1 + 1 + 1 * List.length x.2.2.1 + 4 * List.length x.2.2.2.1 + 1 * List.length x.2.2.2.2.1 + 1 * List.length x.2.2.2.2.2.1 + 1 + 1 + 1 + 1 + 1 + 1 + 1 + 1 + 1 + 1 * List.length x.2.2.2.2.2.2.2.2.2.2.2.2.2.2.2.1 : Nat) : Int), ())
set_option maxHeartbeats 4000000 in
theorem st_MateS (l : List (Int × Int × (List (Int × Unit)) × (List R_iiis) × (List (Int × Unit)) × (List (ByteArray × Unit)) × Int × Int × Int × Int × Int × Int × Int × Int × Int × (List (Int × Unit)) × Unit)) (k : Nat) (z : Int × Int × (List (Int × Unit)) × (List R_iiis) × (List (Int × Unit)) × (List (ByteArray × Unit)) × Int × Int × Int × Int × Int × Int × Int × Int × Int × (List (Int × Unit)) × Unit) (n : Nat) (hk : k < l.length) (hk4 : k < 4611686018427387904) (hz : l[k]? = some z) (hw : W_iiLiELiiisELiELsEiiiiiiiiiLiE z ≤ 4194304) (hn : n + MN_iiLiELiiisELiELsEiiiiiiiiiLiE z ≤ 583008256) : ∃ y, HD_MateS z n y ∧ laws_markMateS_r0 (l, ((n : Nat) : Int), ((k : Nat) : Int), ()) = some (.inl (l.set k y, ((n + MN_iiLiELiiisELiELsEiiiiiiiiiLiE z : Nat) : Int), ((k + 1 : Nat) : Int), ())) := by
  have hm : n + 1 + 1 + 1 * List.length z.2.2.1 + 4 * List.length z.2.2.2.1 + 1 * List.length z.2.2.2.2.1 + 1 * List.length z.2.2.2.2.2.1 + 1 + 1 + 1 + 1 + 1 + 1 + 1 + 1 + 1 + 1 * List.length z.2.2.2.2.2.2.2.2.2.2.2.2.2.2.2.1 = n + MN_iiLiELiiisELiELsEiiiiiiiiiLiE z := by unfold MN_iiLiELiiisELiELsEiiiiiiiiiLiE; omega
  have b0 : n ≤ 1073741824 := by omega
  have b1 : n + 1 ≤ 1073741824 := by omega
  have b2 : n + 1 + 1 ≤ 1073741824 := by omega
  have b3 : n + 1 + 1 + 1 * List.length z.2.2.1 ≤ 1073741824 := by omega
  have b4 : n + 1 + 1 + 1 * List.length z.2.2.1 + 4 * List.length z.2.2.2.1 ≤ 1073741824 := by omega
  have b5 : n + 1 + 1 + 1 * List.length z.2.2.1 + 4 * List.length z.2.2.2.1 + 1 * List.length z.2.2.2.2.1 ≤ 1073741824 := by omega
  have b6 : n + 1 + 1 + 1 * List.length z.2.2.1 + 4 * List.length z.2.2.2.1 + 1 * List.length z.2.2.2.2.1 + 1 * List.length z.2.2.2.2.2.1 ≤ 1073741824 := by omega
  have b7 : n + 1 + 1 + 1 * List.length z.2.2.1 + 4 * List.length z.2.2.2.1 + 1 * List.length z.2.2.2.2.1 + 1 * List.length z.2.2.2.2.2.1 + 1 ≤ 1073741824 := by omega
  have b8 : n + 1 + 1 + 1 * List.length z.2.2.1 + 4 * List.length z.2.2.2.1 + 1 * List.length z.2.2.2.2.1 + 1 * List.length z.2.2.2.2.2.1 + 1 + 1 ≤ 1073741824 := by omega
  have b9 : n + 1 + 1 + 1 * List.length z.2.2.1 + 4 * List.length z.2.2.2.1 + 1 * List.length z.2.2.2.2.1 + 1 * List.length z.2.2.2.2.2.1 + 1 + 1 + 1 ≤ 1073741824 := by omega
  have b10 : n + 1 + 1 + 1 * List.length z.2.2.1 + 4 * List.length z.2.2.2.1 + 1 * List.length z.2.2.2.2.1 + 1 * List.length z.2.2.2.2.2.1 + 1 + 1 + 1 + 1 ≤ 1073741824 := by omega
  have b11 : n + 1 + 1 + 1 * List.length z.2.2.1 + 4 * List.length z.2.2.2.1 + 1 * List.length z.2.2.2.2.1 + 1 * List.length z.2.2.2.2.2.1 + 1 + 1 + 1 + 1 + 1 ≤ 1073741824 := by omega
  have b12 : n + 1 + 1 + 1 * List.length z.2.2.1 + 4 * List.length z.2.2.2.1 + 1 * List.length z.2.2.2.2.1 + 1 * List.length z.2.2.2.2.2.1 + 1 + 1 + 1 + 1 + 1 + 1 ≤ 1073741824 := by omega
  have b13 : n + 1 + 1 + 1 * List.length z.2.2.1 + 4 * List.length z.2.2.2.1 + 1 * List.length z.2.2.2.2.1 + 1 * List.length z.2.2.2.2.2.1 + 1 + 1 + 1 + 1 + 1 + 1 + 1 ≤ 1073741824 := by omega
  have b14 : n + 1 + 1 + 1 * List.length z.2.2.1 + 4 * List.length z.2.2.2.1 + 1 * List.length z.2.2.2.2.1 + 1 * List.length z.2.2.2.2.2.1 + 1 + 1 + 1 + 1 + 1 + 1 + 1 + 1 ≤ 1073741824 := by omega
  have b15 : n + 1 + 1 + 1 * List.length z.2.2.1 + 4 * List.length z.2.2.2.1 + 1 * List.length z.2.2.2.2.1 + 1 * List.length z.2.2.2.2.2.1 + 1 + 1 + 1 + 1 + 1 + 1 + 1 + 1 + 1 ≤ 1073741824 := by omega
  have hw0 : W_iiLiELiiisELiELsEiiiiiiiiiLiE z = (List.length z.2.2.1 + wl W_i z.2.2.1) + (List.length z.2.2.2.1 + wl W_iiis z.2.2.2.1) + (List.length z.2.2.2.2.1 + wl W_i z.2.2.2.2.1) + (List.length z.2.2.2.2.2.1 + wl W_s z.2.2.2.2.2.1) + (List.length z.2.2.2.2.2.2.2.2.2.2.2.2.2.2.2.1 + wl W_i z.2.2.2.2.2.2.2.2.2.2.2.2.2.2.2.1) := rfl
  obtain ⟨l2, e2, g2, _⟩ := mh_IntS z.2.2.1 (n + 1 + 1) (by omega) (by omega)
  obtain ⟨l3, e3, g3, _⟩ := mh_ItemS z.2.2.2.1 (n + 1 + 1 + 1 * List.length z.2.2.1) (by omega) (by omega)
  obtain ⟨l4, e4, g4, _⟩ := mh_IntS z.2.2.2.2.1 (n + 1 + 1 + 1 * List.length z.2.2.1 + 4 * List.length z.2.2.2.1) (by omega) (by omega)
  obtain ⟨l5, e5, g5, _⟩ := mh_StringS z.2.2.2.2.2.1 (n + 1 + 1 + 1 * List.length z.2.2.1 + 4 * List.length z.2.2.2.1 + 1 * List.length z.2.2.2.2.1) (by omega) (by omega)
  obtain ⟨l15, e15, g15, _⟩ := mh_IntS z.2.2.2.2.2.2.2.2.2.2.2.2.2.2.2.1 (n + 1 + 1 + 1 * List.length z.2.2.1 + 4 * List.length z.2.2.2.1 + 1 * List.length z.2.2.2.2.1 + 1 * List.length z.2.2.2.2.2.1 + 1 + 1 + 1 + 1 + 1 + 1 + 1 + 1 + 1) (by omega) (by omega)
  refine ⟨(((n : Nat) : Int), ((n + 1 : Nat) : Int), l2, l3, l4, l5, ((n + 1 + 1 + 1 * List.length z.2.2.1 + 4 * List.length z.2.2.2.1 + 1 * List.length z.2.2.2.2.1 + 1 * List.length z.2.2.2.2.2.1 : Nat) : Int), ((n + 1 + 1 + 1 * List.length z.2.2.1 + 4 * List.length z.2.2.2.1 + 1 * List.length z.2.2.2.2.1 + 1 * List.length z.2.2.2.2.2.1 + 1 : Nat) : Int), ((n + 1 + 1 + 1 * List.length z.2.2.1 + 4 * List.length z.2.2.2.1 + 1 * List.length z.2.2.2.2.1 + 1 * List.length z.2.2.2.2.2.1 + 1 + 1 : Nat) : Int), ((n + 1 + 1 + 1 * List.length z.2.2.1 + 4 * List.length z.2.2.2.1 + 1 * List.length z.2.2.2.2.1 + 1 * List.length z.2.2.2.2.2.1 + 1 + 1 + 1 : Nat) : Int), ((n + 1 + 1 + 1 * List.length z.2.2.1 + 4 * List.length z.2.2.2.1 + 1 * List.length z.2.2.2.2.1 + 1 * List.length z.2.2.2.2.2.1 + 1 + 1 + 1 + 1 : Nat) : Int), ((n + 1 + 1 + 1 * List.length z.2.2.1 + 4 * List.length z.2.2.2.1 + 1 * List.length z.2.2.2.2.1 + 1 * List.length z.2.2.2.2.2.1 + 1 + 1 + 1 + 1 + 1 : Nat) : Int), ((n + 1 + 1 + 1 * List.length z.2.2.1 + 4 * List.length z.2.2.2.1 + 1 * List.length z.2.2.2.2.1 + 1 * List.length z.2.2.2.2.2.1 + 1 + 1 + 1 + 1 + 1 + 1 : Nat) : Int), ((n + 1 + 1 + 1 * List.length z.2.2.1 + 4 * List.length z.2.2.2.1 + 1 * List.length z.2.2.2.2.1 + 1 * List.length z.2.2.2.2.2.1 + 1 + 1 + 1 + 1 + 1 + 1 + 1 : Nat) : Int), ((n + 1 + 1 + 1 * List.length z.2.2.1 + 4 * List.length z.2.2.2.1 + 1 * List.length z.2.2.2.2.1 + 1 * List.length z.2.2.2.2.2.1 + 1 + 1 + 1 + 1 + 1 + 1 + 1 + 1 : Nat) : Int), l15, ()), ⟨rfl, rfl, g2, g3, g4, g5, rfl, rfl, rfl, rfl, rfl, rfl, rfl, rfl, rfl, g15⟩, ?_⟩
  rw [← hm]
  simp only [laws_markMateS_r0, laws_markMateS_c0, lt_nat_true hk, zero_le_nat, cond_true, toNat_nat, List.length_set, blt_true hk, hz, List.getElem?_set_self hk, List.set_set, Option.bind_some, e2, e3, e4, e5, e15, succ_w b0, succ_w b1, succ_w b6, succ_w b7, succ_w b8, succ_w b9, succ_w b10, succ_w b11, succ_w b12, succ_w b13, succ_w b14, succ_wrap hk4]
set_option maxHeartbeats 4000000 in
theorem sh_MateS (l : List (Int × Int × (List (Int × Unit)) × (List R_iiis) × (List (Int × Unit)) × (List (ByteArray × Unit)) × Int × Int × Int × Int × Int × Int × Int × Int × Int × (List (Int × Unit)) × Unit)) (k : Nat) (z y : Int × Int × (List (Int × Unit)) × (List R_iiis) × (List (Int × Unit)) × (List (ByteArray × Unit)) × Int × Int × Int × Int × Int × Int × Int × Int × Int × (List (Int × Unit)) × Unit) (n : Nat) (hk : k < l.length) (hk4 : k < 4611686018427387904) (hy : l[k]? = some y) (hd : HD_MateS z n y) (hn : n + MN_iiLiELiiisELiELsEiiiiiiiiiLiE z ≤ 583008256) : laws_heldMateS_r0 (l, ((n : Nat) : Int), ((k : Nat) : Int), ()) = some (.inl (l, ((n + MN_iiLiELiiisELiELsEiiiiiiiiiLiE z : Nat) : Int), ((k + 1 : Nat) : Int), ())) := by
  have hm : n + 1 + 1 + 1 * List.length z.2.2.1 + 4 * List.length z.2.2.2.1 + 1 * List.length z.2.2.2.2.1 + 1 * List.length z.2.2.2.2.2.1 + 1 + 1 + 1 + 1 + 1 + 1 + 1 + 1 + 1 + 1 * List.length z.2.2.2.2.2.2.2.2.2.2.2.2.2.2.2.1 = n + MN_iiLiELiiisELiELsEiiiiiiiiiLiE z := by unfold MN_iiLiELiiisELiELsEiiiiiiiiiLiE; omega
  have b0 : n ≤ 1073741824 := by omega
  have b1 : n + 1 ≤ 1073741824 := by omega
  have b2 : n + 1 + 1 ≤ 1073741824 := by omega
  have b3 : n + 1 + 1 + 1 * List.length z.2.2.1 ≤ 1073741824 := by omega
  have b4 : n + 1 + 1 + 1 * List.length z.2.2.1 + 4 * List.length z.2.2.2.1 ≤ 1073741824 := by omega
  have b5 : n + 1 + 1 + 1 * List.length z.2.2.1 + 4 * List.length z.2.2.2.1 + 1 * List.length z.2.2.2.2.1 ≤ 1073741824 := by omega
  have b6 : n + 1 + 1 + 1 * List.length z.2.2.1 + 4 * List.length z.2.2.2.1 + 1 * List.length z.2.2.2.2.1 + 1 * List.length z.2.2.2.2.2.1 ≤ 1073741824 := by omega
  have b7 : n + 1 + 1 + 1 * List.length z.2.2.1 + 4 * List.length z.2.2.2.1 + 1 * List.length z.2.2.2.2.1 + 1 * List.length z.2.2.2.2.2.1 + 1 ≤ 1073741824 := by omega
  have b8 : n + 1 + 1 + 1 * List.length z.2.2.1 + 4 * List.length z.2.2.2.1 + 1 * List.length z.2.2.2.2.1 + 1 * List.length z.2.2.2.2.2.1 + 1 + 1 ≤ 1073741824 := by omega
  have b9 : n + 1 + 1 + 1 * List.length z.2.2.1 + 4 * List.length z.2.2.2.1 + 1 * List.length z.2.2.2.2.1 + 1 * List.length z.2.2.2.2.2.1 + 1 + 1 + 1 ≤ 1073741824 := by omega
  have b10 : n + 1 + 1 + 1 * List.length z.2.2.1 + 4 * List.length z.2.2.2.1 + 1 * List.length z.2.2.2.2.1 + 1 * List.length z.2.2.2.2.2.1 + 1 + 1 + 1 + 1 ≤ 1073741824 := by omega
  have b11 : n + 1 + 1 + 1 * List.length z.2.2.1 + 4 * List.length z.2.2.2.1 + 1 * List.length z.2.2.2.2.1 + 1 * List.length z.2.2.2.2.2.1 + 1 + 1 + 1 + 1 + 1 ≤ 1073741824 := by omega
  have b12 : n + 1 + 1 + 1 * List.length z.2.2.1 + 4 * List.length z.2.2.2.1 + 1 * List.length z.2.2.2.2.1 + 1 * List.length z.2.2.2.2.2.1 + 1 + 1 + 1 + 1 + 1 + 1 ≤ 1073741824 := by omega
  have b13 : n + 1 + 1 + 1 * List.length z.2.2.1 + 4 * List.length z.2.2.2.1 + 1 * List.length z.2.2.2.2.1 + 1 * List.length z.2.2.2.2.2.1 + 1 + 1 + 1 + 1 + 1 + 1 + 1 ≤ 1073741824 := by omega
  have b14 : n + 1 + 1 + 1 * List.length z.2.2.1 + 4 * List.length z.2.2.2.1 + 1 * List.length z.2.2.2.2.1 + 1 * List.length z.2.2.2.2.2.1 + 1 + 1 + 1 + 1 + 1 + 1 + 1 + 1 ≤ 1073741824 := by omega
  have b15 : n + 1 + 1 + 1 * List.length z.2.2.1 + 4 * List.length z.2.2.2.1 + 1 * List.length z.2.2.2.2.1 + 1 * List.length z.2.2.2.2.2.1 + 1 + 1 + 1 + 1 + 1 + 1 + 1 + 1 + 1 ≤ 1073741824 := by omega
  obtain ⟨h0, h1, h2, h3, h4, h5, h6, h7, h8, h9, h10, h11, h12, h13, h14, h15⟩ := hd
  rw [← hm]
  simp only [laws_heldMateS_r0, laws_heldMateS_c0, lt_nat_true hk, zero_le_nat, cond_true, cond_false, toNat_nat, hy, decide_true, strEq_self, beq_self_eq_true, Bool.not_true, Option.bind_some, h0, h1, h2, h3, h4, h5, h6, h7, h8, h9, h10, h11, h12, h13, h14, h15, succ_w b0, succ_w b1, succ_w b6, succ_w b7, succ_w b8, succ_w b9, succ_w b10, succ_w b11, succ_w b12, succ_w b13, succ_w b14, nat_neg, succ_wrap hk4]
theorem mh_MateS (xs : List (Int × Int × (List (Int × Unit)) × (List R_iiis) × (List (Int × Unit)) × (List (ByteArray × Unit)) × Int × Int × Int × Int × Int × Int × Int × Int × Int × (List (Int × Unit)) × Unit)) (a : Nat) (h : List.length xs + wl W_iiLiELiiisELiELsEiiiiiiiiiLiE xs ≤ 4194304) (ha : a ≤ 536870912) : ∃ l, laws_markMateS xs ((a : Nat) : Int) = some (((a + wl MN_iiLiELiiisELiELsEiiiiiiiiiLiE xs : Nat) : Int), l, ()) ∧ laws_heldMateS l ((a : Nat) : Int) = some (((a + wl MN_iiLiELiiisELiELsEiiiiiiiiiLiE xs : Nat) : Int), ()) ∧ (List.length l = List.length xs ∧ wl MN_iiLiELiiisELiELsEiiiiiiiiiLiE xs ≤ 11 * (List.length xs + wl W_iiLiELiiisELiELsEiiiiiiiiiLiE xs)) := by
  have hm := mnl_iiLiELiiisELiELsEiiiiiiiiiLiE xs
  obtain ⟨l, h1, h2, h3⟩ := mark_loop MN_iiLiELiiisELiELsEiiiiiiiiiLiE HD_MateS laws_markMateS_r0 xs a (fun l m hl => by simp only [laws_markMateS_r0, laws_markMateS_c0, hl, lt_nat_irr, cond_false]) (fun l k hk n hl hz hn => st_MateS l k xs[k] n (by omega) (by omega) hz (Nat.le_trans (wl_mem W_iiLiELiiisELiELsEiiiiiiiiiLiE xs _ (List.getElem_mem hk)) (by omega)) (by omega))
  refine ⟨l, ?_, ?_, h2, hm⟩
  · unfold laws_markMateS
    rw [h1]
    rfl
  · have h4 := held_loop MN_iiLiELiiisELiELsEiiiiiiiiiLiE HD_MateS laws_heldMateS_r0 xs l a h2 h3 (fun m => by simp only [laws_heldMateS_r0, laws_heldMateS_c0, h2, lt_nat_irr, cond_false]) (fun k hk n y hk' hy hd hn => sh_MateS l k xs[k] y n hk' (by omega) hy hd (by omega))
    unfold laws_heldMateS
    rw [h4]
    rfl

/-! markFlyS -/
/-- How many marks a row takes. -/
def MN_ibiiiiiLiEiiis (x : Int × Bool × Int × Int × Int × Int × Int × (List (Int × Unit)) × Int × Int × Int × ByteArray × Unit) : Nat := 1 + 1 + 1 + 1 + 1 + 1 + 1 + 1 * List.length x.2.2.2.2.2.2.2.1 + 1 + 1 + 1 + 1
theorem mn_ibiiiiiLiEiiis (x : Int × Bool × Int × Int × Int × Int × Int × (List (Int × Unit)) × Int × Int × Int × ByteArray × Unit) : MN_ibiiiiiLiEiiis x ≤ 11 * (1 + W_ibiiiiiLiEiiis x) := by
  unfold MN_ibiiiiiLiEiiis W_ibiiiiiLiEiiis
  omega
theorem mnl_ibiiiiiLiEiiis (xs : List (Int × Bool × Int × Int × Int × Int × Int × (List (Int × Unit)) × Int × Int × Int × ByteArray × Unit)) : wl MN_ibiiiiiLiEiiis xs ≤ 11 * (List.length xs + wl W_ibiiiiiLiEiiis xs) := wl_scale _ _ 11 mn_ibiiiiiLiEiiis xs
/-- A row that is marked from a number on. -/
def HD_FlyS (x : Int × Bool × Int × Int × Int × Int × Int × (List (Int × Unit)) × Int × Int × Int × ByteArray × Unit) (n : Nat) (y : Int × Bool × Int × Int × Int × Int × Int × (List (Int × Unit)) × Int × Int × Int × ByteArray × Unit) : Prop := y.1 = ((n : Nat) : Int) ∧ y.2.1 = (decide (Int.tmod ((n + 1 : Nat) : Int) (3 : Int) = (0 : Int))) ∧ y.2.2.1 = ((n + 1 + 1 : Nat) : Int) ∧ y.2.2.2.1 = ((n + 1 + 1 + 1 : Nat) : Int) ∧ y.2.2.2.2.1 = ((n + 1 + 1 + 1 + 1 : Nat) : Int) ∧ y.2.2.2.2.2.1 = ((n + 1 + 1 + 1 + 1 + 1 : Nat) : Int) ∧ y.2.2.2.2.2.2.1 = ((n + 1 + 1 + 1 + 1 + 1 + 1 : Nat) : Int) ∧ laws_heldIntS y.2.2.2.2.2.2.2.1 ((n + 1 + 1 + 1 + 1 + 1 + 1 + 1 : Nat) : Int) = some (((n + 1 + 1 + 1 + 1 + 1 + 1 + 1 + 1 * List.length x.2.2.2.2.2.2.2.1 : Nat) : Int), ()) ∧ y.2.2.2.2.2.2.2.2.1 = ((n + 1 + 1 + 1 + 1 + 1 + 1 + 1 + 1 * List.length x.2.2.2.2.2.2.2.1 : Nat) : Int) ∧ y.2.2.2.2.2.2.2.2.2.1 = ((n + 1 + 1 + 1 + 1 + 1 + 1 + 1 + 1 * List.length x.2.2.2.2.2.2.2.1 + 1 : Nat) : Int) ∧ y.2.2.2.2.2.2.2.2.2.2.1 = ((n + 1 + 1 + 1 + 1 + 1 + 1 + 1 + 1 * List.length x.2.2.2.2.2.2.2.1 + 1 + 1 : Nat) : Int) ∧ y.2.2.2.2.2.2.2.2.2.2.2.1 = markOf (n + 1 + 1 + 1 + 1 + 1 + 1 + 1 + 1 * List.length x.2.2.2.2.2.2.2.1 + 1 + 1 + 1)
theorem st_FlyS (l : List (Int × Bool × Int × Int × Int × Int × Int × (List (Int × Unit)) × Int × Int × Int × ByteArray × Unit)) (k : Nat) (z : Int × Bool × Int × Int × Int × Int × Int × (List (Int × Unit)) × Int × Int × Int × ByteArray × Unit) (n : Nat) (hk : k < l.length) (hk4 : k < 4611686018427387904) (hz : l[k]? = some z) (hw : W_ibiiiiiLiEiiis z ≤ 4194304) (hn : n + MN_ibiiiiiLiEiiis z ≤ 583008256) : ∃ y, HD_FlyS z n y ∧ laws_markFlyS_r0 (l, ((n : Nat) : Int), ((k : Nat) : Int), ()) = some (.inl (l.set k y, ((n + MN_ibiiiiiLiEiiis z : Nat) : Int), ((k + 1 : Nat) : Int), ())) := by
  have hm : n + 1 + 1 + 1 + 1 + 1 + 1 + 1 + 1 * List.length z.2.2.2.2.2.2.2.1 + 1 + 1 + 1 + 1 = n + MN_ibiiiiiLiEiiis z := by unfold MN_ibiiiiiLiEiiis; omega
  have b0 : n ≤ 1073741824 := by omega
  have b1 : n + 1 ≤ 1073741824 := by omega
  have b2 : n + 1 + 1 ≤ 1073741824 := by omega
  have b3 : n + 1 + 1 + 1 ≤ 1073741824 := by omega
  have b4 : n + 1 + 1 + 1 + 1 ≤ 1073741824 := by omega
  have b5 : n + 1 + 1 + 1 + 1 + 1 ≤ 1073741824 := by omega
  have b6 : n + 1 + 1 + 1 + 1 + 1 + 1 ≤ 1073741824 := by omega
  have b7 : n + 1 + 1 + 1 + 1 + 1 + 1 + 1 ≤ 1073741824 := by omega
  have b8 : n + 1 + 1 + 1 + 1 + 1 + 1 + 1 + 1 * List.length z.2.2.2.2.2.2.2.1 ≤ 1073741824 := by omega
  have b9 : n + 1 + 1 + 1 + 1 + 1 + 1 + 1 + 1 * List.length z.2.2.2.2.2.2.2.1 + 1 ≤ 1073741824 := by omega
  have b10 : n + 1 + 1 + 1 + 1 + 1 + 1 + 1 + 1 * List.length z.2.2.2.2.2.2.2.1 + 1 + 1 ≤ 1073741824 := by omega
  have b11 : n + 1 + 1 + 1 + 1 + 1 + 1 + 1 + 1 * List.length z.2.2.2.2.2.2.2.1 + 1 + 1 + 1 ≤ 1073741824 := by omega
  have hw0 : W_ibiiiiiLiEiiis z = (List.length z.2.2.2.2.2.2.2.1 + wl W_i z.2.2.2.2.2.2.2.1) + ByteArray.size z.2.2.2.2.2.2.2.2.2.2.2.1 := rfl
  obtain ⟨l7, e7, g7, _⟩ := mh_IntS z.2.2.2.2.2.2.2.1 (n + 1 + 1 + 1 + 1 + 1 + 1 + 1) (by omega) (by omega)
  refine ⟨(((n : Nat) : Int), (decide (Int.tmod ((n + 1 : Nat) : Int) (3 : Int) = (0 : Int))), ((n + 1 + 1 : Nat) : Int), ((n + 1 + 1 + 1 : Nat) : Int), ((n + 1 + 1 + 1 + 1 : Nat) : Int), ((n + 1 + 1 + 1 + 1 + 1 : Nat) : Int), ((n + 1 + 1 + 1 + 1 + 1 + 1 : Nat) : Int), l7, ((n + 1 + 1 + 1 + 1 + 1 + 1 + 1 + 1 * List.length z.2.2.2.2.2.2.2.1 : Nat) : Int), ((n + 1 + 1 + 1 + 1 + 1 + 1 + 1 + 1 * List.length z.2.2.2.2.2.2.2.1 + 1 : Nat) : Int), ((n + 1 + 1 + 1 + 1 + 1 + 1 + 1 + 1 * List.length z.2.2.2.2.2.2.2.1 + 1 + 1 : Nat) : Int), markOf (n + 1 + 1 + 1 + 1 + 1 + 1 + 1 + 1 * List.length z.2.2.2.2.2.2.2.1 + 1 + 1 + 1), ()), ⟨rfl, rfl, rfl, rfl, rfl, rfl, rfl, g7, rfl, rfl, rfl, rfl⟩, ?_⟩
  rw [← hm]
  simp only [laws_markFlyS_r0, laws_markFlyS_c0, lt_nat_true hk, zero_le_nat, cond_true, toNat_nat, List.length_set, blt_true hk, hz, List.getElem?_set_self hk, List.set_set, Option.bind_some, e7, succ_w b0, succ_w b1, succ_w b2, succ_w b3, succ_w b4, succ_w b5, succ_w b6, succ_w b8, succ_w b9, succ_w b10, succ_w b11, markOf_w b11, succ_wrap hk4]
theorem sh_FlyS (l : List (Int × Bool × Int × Int × Int × Int × Int × (List (Int × Unit)) × Int × Int × Int × ByteArray × Unit)) (k : Nat) (z y : Int × Bool × Int × Int × Int × Int × Int × (List (Int × Unit)) × Int × Int × Int × ByteArray × Unit) (n : Nat) (hk : k < l.length) (hk4 : k < 4611686018427387904) (hy : l[k]? = some y) (hd : HD_FlyS z n y) (hn : n + MN_ibiiiiiLiEiiis z ≤ 583008256) : laws_heldFlyS_r0 (l, ((n : Nat) : Int), ((k : Nat) : Int), ()) = some (.inl (l, ((n + MN_ibiiiiiLiEiiis z : Nat) : Int), ((k + 1 : Nat) : Int), ())) := by
  have hm : n + 1 + 1 + 1 + 1 + 1 + 1 + 1 + 1 * List.length z.2.2.2.2.2.2.2.1 + 1 + 1 + 1 + 1 = n + MN_ibiiiiiLiEiiis z := by unfold MN_ibiiiiiLiEiiis; omega
  have b0 : n ≤ 1073741824 := by omega
  have b1 : n + 1 ≤ 1073741824 := by omega
  have b2 : n + 1 + 1 ≤ 1073741824 := by omega
  have b3 : n + 1 + 1 + 1 ≤ 1073741824 := by omega
  have b4 : n + 1 + 1 + 1 + 1 ≤ 1073741824 := by omega
  have b5 : n + 1 + 1 + 1 + 1 + 1 ≤ 1073741824 := by omega
  have b6 : n + 1 + 1 + 1 + 1 + 1 + 1 ≤ 1073741824 := by omega
  have b7 : n + 1 + 1 + 1 + 1 + 1 + 1 + 1 ≤ 1073741824 := by omega
  have b8 : n + 1 + 1 + 1 + 1 + 1 + 1 + 1 + 1 * List.length z.2.2.2.2.2.2.2.1 ≤ 1073741824 := by omega
  have b9 : n + 1 + 1 + 1 + 1 + 1 + 1 + 1 + 1 * List.length z.2.2.2.2.2.2.2.1 + 1 ≤ 1073741824 := by omega
  have b10 : n + 1 + 1 + 1 + 1 + 1 + 1 + 1 + 1 * List.length z.2.2.2.2.2.2.2.1 + 1 + 1 ≤ 1073741824 := by omega
  have b11 : n + 1 + 1 + 1 + 1 + 1 + 1 + 1 + 1 * List.length z.2.2.2.2.2.2.2.1 + 1 + 1 + 1 ≤ 1073741824 := by omega
  obtain ⟨h0, h1, h2, h3, h4, h5, h6, h7, h8, h9, h10, h11⟩ := hd
  rw [← hm]
  simp only [laws_heldFlyS_r0, laws_heldFlyS_c0, lt_nat_true hk, zero_le_nat, cond_true, cond_false, toNat_nat, hy, decide_true, strEq_self, beq_self_eq_true, Bool.not_true, Option.bind_some, h0, h1, h2, h3, h4, h5, h6, h7, h8, h9, h10, h11, succ_w b0, succ_w b1, succ_w b2, succ_w b3, succ_w b4, succ_w b5, succ_w b6, succ_w b8, succ_w b9, succ_w b10, succ_w b11, markOf_w b11, nat_neg, succ_wrap hk4]
theorem mh_FlyS (xs : List (Int × Bool × Int × Int × Int × Int × Int × (List (Int × Unit)) × Int × Int × Int × ByteArray × Unit)) (a : Nat) (h : List.length xs + wl W_ibiiiiiLiEiiis xs ≤ 4194304) (ha : a ≤ 536870912) : ∃ l, laws_markFlyS xs ((a : Nat) : Int) = some (((a + wl MN_ibiiiiiLiEiiis xs : Nat) : Int), l, ()) ∧ laws_heldFlyS l ((a : Nat) : Int) = some (((a + wl MN_ibiiiiiLiEiiis xs : Nat) : Int), ()) ∧ (List.length l = List.length xs ∧ wl MN_ibiiiiiLiEiiis xs ≤ 11 * (List.length xs + wl W_ibiiiiiLiEiiis xs)) := by
  have hm := mnl_ibiiiiiLiEiiis xs
  obtain ⟨l, h1, h2, h3⟩ := mark_loop MN_ibiiiiiLiEiiis HD_FlyS laws_markFlyS_r0 xs a (fun l m hl => by simp only [laws_markFlyS_r0, laws_markFlyS_c0, hl, lt_nat_irr, cond_false]) (fun l k hk n hl hz hn => st_FlyS l k xs[k] n (by omega) (by omega) hz (Nat.le_trans (wl_mem W_ibiiiiiLiEiiis xs _ (List.getElem_mem hk)) (by omega)) (by omega))
  refine ⟨l, ?_, ?_, h2, hm⟩
  · unfold laws_markFlyS
    rw [h1]
    rfl
  · have h4 := held_loop MN_ibiiiiiLiEiiis HD_FlyS laws_heldFlyS_r0 xs l a h2 h3 (fun m => by simp only [laws_heldFlyS_r0, laws_heldFlyS_c0, h2, lt_nat_irr, cond_false]) (fun k hk n y hk' hy hd hn => sh_FlyS l k xs[k] y n hk' (by omega) hy hd (by omega))
    unfold laws_heldFlyS
    rw [h4]
    rfl

/-! markItemSS -/
/-- How many marks a row takes. -/
def MN_LiiisE (x : (List R_iiis) × Unit) : Nat := 4 * List.length x.1
theorem mn_LiiisE (x : (List R_iiis) × Unit) : MN_LiiisE x ≤ 4 * (1 + W_LiiisE x) := by
  unfold MN_LiiisE W_LiiisE
  omega
theorem mnl_LiiisE (xs : List ((List R_iiis) × Unit)) : wl MN_LiiisE xs ≤ 4 * (List.length xs + wl W_LiiisE xs) := wl_scale _ _ 4 mn_LiiisE xs
/-- A row that is marked from a number on. -/
def HD_ItemSS (x : (List R_iiis) × Unit) (n : Nat) (y : (List R_iiis) × Unit) : Prop := laws_heldItemS y.1 ((n : Nat) : Int) = some (((n + 4 * List.length x.1 : Nat) : Int), ())
theorem st_ItemSS (l : List ((List R_iiis) × Unit)) (k : Nat) (z : (List R_iiis) × Unit) (n : Nat) (hk : k < l.length) (hk4 : k < 4611686018427387904) (hz : l[k]? = some z) (hw : W_LiiisE z ≤ 4194304) (hn : n + MN_LiiisE z ≤ 553648128) : ∃ y, HD_ItemSS z n y ∧ laws_markItemSS_r0 (l, ((n : Nat) : Int), ((k : Nat) : Int), ()) = some (.inl (l.set k y, ((n + MN_LiiisE z : Nat) : Int), ((k + 1 : Nat) : Int), ())) := by
  have hm : n + 4 * List.length z.1 = n + MN_LiiisE z := by unfold MN_LiiisE; omega
  have b0 : n ≤ 1073741824 := by omega
  have hw0 : W_LiiisE z = (List.length z.1 + wl W_iiis z.1) := rfl
  obtain ⟨l0, e0, g0, _⟩ := mh_ItemS z.1 (n) (by omega) (by omega)
  refine ⟨(l0, ()), g0, ?_⟩
  rw [← hm]
  simp only [laws_markItemSS_r0, laws_markItemSS_c0, lt_nat_true hk, zero_le_nat, cond_true, toNat_nat, List.length_set, blt_true hk, hz, List.getElem?_set_self hk, List.set_set, Option.bind_some, e0, succ_wrap hk4]
theorem sh_ItemSS (l : List ((List R_iiis) × Unit)) (k : Nat) (z y : (List R_iiis) × Unit) (n : Nat) (hk : k < l.length) (hk4 : k < 4611686018427387904) (hy : l[k]? = some y) (hd : HD_ItemSS z n y) (hn : n + MN_LiiisE z ≤ 553648128) : laws_heldItemSS_r0 (l, ((n : Nat) : Int), ((k : Nat) : Int), ()) = some (.inl (l, ((n + MN_LiiisE z : Nat) : Int), ((k + 1 : Nat) : Int), ())) := by
  have hm : n + 4 * List.length z.1 = n + MN_LiiisE z := by unfold MN_LiiisE; omega
  have b0 : n ≤ 1073741824 := by omega
  unfold HD_ItemSS at hd
  have h0 := hd
  rw [← hm]
  simp only [laws_heldItemSS_r0, laws_heldItemSS_c0, lt_nat_true hk, zero_le_nat, cond_true, cond_false, toNat_nat, hy, decide_true, strEq_self, beq_self_eq_true, Bool.not_true, Option.bind_some, h0, nat_neg, succ_wrap hk4]
theorem mh_ItemSS (xs : List ((List R_iiis) × Unit)) (a : Nat) (h : List.length xs + wl W_LiiisE xs ≤ 4194304) (ha : a ≤ 536870912) : ∃ l, laws_markItemSS xs ((a : Nat) : Int) = some (((a + wl MN_LiiisE xs : Nat) : Int), l, ()) ∧ laws_heldItemSS l ((a : Nat) : Int) = some (((a + wl MN_LiiisE xs : Nat) : Int), ()) ∧ (List.length l = List.length xs ∧ wl MN_LiiisE xs ≤ 4 * (List.length xs + wl W_LiiisE xs)) := by
  have hm := mnl_LiiisE xs
  obtain ⟨l, h1, h2, h3⟩ := mark_loop MN_LiiisE HD_ItemSS laws_markItemSS_r0 xs a (fun l m hl => by simp only [laws_markItemSS_r0, laws_markItemSS_c0, hl, lt_nat_irr, cond_false]) (fun l k hk n hl hz hn => st_ItemSS l k xs[k] n (by omega) (by omega) hz (Nat.le_trans (wl_mem W_LiiisE xs _ (List.getElem_mem hk)) (by omega)) (by omega))
  refine ⟨l, ?_, ?_, h2, hm⟩
  · unfold laws_markItemSS
    rw [h1]
    rfl
  · have h4 := held_loop MN_LiiisE HD_ItemSS laws_heldItemSS_r0 xs l a h2 h3 (fun m => by simp only [laws_heldItemSS_r0, laws_heldItemSS_c0, h2, lt_nat_irr, cond_false]) (fun k hk n y hk' hy hd hn => sh_ItemSS l k xs[k] y n hk' (by omega) hy hd (by omega))
    unfold laws_heldItemSS
    rw [h4]
    rfl

/-! markWork -/
theorem mh_Work (a0c0 : Int) (a0c1 : List (Int × Unit)) (a0c2 : List R_iiLiELiiisELiELsEiiiiiiiiiLiE) (a0c3 : List R_ibiiiiiLiEiiis) (a0c4 : List ((List R_iiis) × Unit)) (a0c5 : List R_iiis) (a : Nat) (h1 : List.length a0c1 ≤ 4194304) (h2 : List.length a0c2 + wl W_iiLiELiiisELiELsEiiiiiiiiiLiE a0c2 ≤ 4194304) (h3 : List.length a0c3 + wl W_ibiiiiiLiEiiis a0c3 ≤ 4194304) (h4 : List.length a0c4 + wl W_LiiisE a0c4 ≤ 4194304) (h5 : List.length a0c5 ≤ 4194304) (ha : a ≤ 268435456) : ∃ l1 l2 l3 l4 l5, laws_markWork a0c0 a0c1 a0c2 a0c3 a0c4 a0c5 ((a : Nat) : Int) = some (((a + 1 * List.length a0c1 + wl MN_iiLiELiiisELiELsEiiiiiiiiiLiE a0c2 + wl MN_ibiiiiiLiEiiis a0c3 + wl MN_LiiisE a0c4 + 4 * List.length a0c5 : Nat) : Int), l1, l2, l3, l4, l5, ()) ∧ laws_heldWork a0c0 l1 l2 l3 l4 l5 ((a : Nat) : Int) = some (((a + 1 * List.length a0c1 + wl MN_iiLiELiiisELiELsEiiiiiiiiiLiE a0c2 + wl MN_ibiiiiiLiEiiis a0c3 + wl MN_LiiisE a0c4 + 4 * List.length a0c5 : Nat) : Int), ()) ∧ List.length l1 = List.length a0c1 ∧ (List.length l2 = List.length a0c2 ∧ wl MN_iiLiELiiisELiELsEiiiiiiiiiLiE a0c2 ≤ 11 * (List.length a0c2 + wl W_iiLiELiiisELiELsEiiiiiiiiiLiE a0c2)) ∧ (List.length l3 = List.length a0c3 ∧ wl MN_ibiiiiiLiEiiis a0c3 ≤ 11 * (List.length a0c3 + wl W_ibiiiiiLiEiiis a0c3)) ∧ (List.length l4 = List.length a0c4 ∧ wl MN_LiiisE a0c4 ≤ 4 * (List.length a0c4 + wl W_LiiisE a0c4)) ∧ List.length l5 = List.length a0c5 := by
  obtain ⟨l1, e0, g0, nl1⟩ := mh_Ring a0c0 a0c1 (a) h1 (by omega)
  obtain ⟨l2, e1, g1, nl2⟩ := mh_MateS a0c2 (a + 1 * List.length a0c1) h2 (by omega)
  obtain ⟨l3, e2, g2, nl3⟩ := mh_FlyS a0c3 (a + 1 * List.length a0c1 + wl MN_iiLiELiiisELiELsEiiiiiiiiiLiE a0c2) h3 (by omega)
  obtain ⟨l4, e3, g3, nl4⟩ := mh_ItemSS a0c4 (a + 1 * List.length a0c1 + wl MN_iiLiELiiisELiELsEiiiiiiiiiLiE a0c2 + wl MN_ibiiiiiLiEiiis a0c3) h4 (by omega)
  obtain ⟨l5, e4, g4, nl5⟩ := mh_ItemS a0c5 (a + 1 * List.length a0c1 + wl MN_iiLiELiiisELiELsEiiiiiiiiiLiE a0c2 + wl MN_ibiiiiiLiEiiis a0c3 + wl MN_LiiisE a0c4) h5 (by omega)
  refine ⟨l1, l2, l3, l4, l5, ?_, ?_, nl1, nl2, nl3, nl4, nl5⟩
  · simp only [laws_markWork, e0, e1, e2, e3, e4, Option.bind_some]
  · simp only [laws_heldWork, g0, g1, g2, g3, g4, Option.bind_some, cond_false, dec_false (show ¬ ((a + 1 * List.length a0c1 : Nat) : Int) < 0 by omega), dec_false (show ¬ ((a + 1 * List.length a0c1 + wl MN_iiLiELiiisELiELsEiiiiiiiiiLiE a0c2 : Nat) : Int) < 0 by omega), dec_false (show ¬ ((a + 1 * List.length a0c1 + wl MN_iiLiELiiisELiELsEiiiiiiiiiLiE a0c2 + wl MN_ibiiiiiLiEiiis a0c3 : Nat) : Int) < 0 by omega), dec_false (show ¬ ((a + 1 * List.length a0c1 + wl MN_iiLiELiiisELiELsEiiiiiiiiiLiE a0c2 + wl MN_ibiiiiiLiEiiis a0c3 + wl MN_LiiisE a0c4 : Nat) : Int) < 0 by omega), dec_false (show ¬ ((a + 1 * List.length a0c1 + wl MN_iiLiELiiisELiELsEiiiiiiiiiLiE a0c2 + wl MN_ibiiiiiLiEiiis a0c3 + wl MN_LiiisE a0c4 + 4 * List.length a0c5 : Nat) : Int) < 0 by omega)]

end Go.TM
