/- Marks: what the laws write they find again. -/
import Derived.Test.YtmljblppihbkdaaEPMarkDeep
set_option linter.unusedSimpArgs false
set_option linter.unusedVariables false
namespace Go.TM
open Go

/-! markIntS -/
/-- The marks of one element. -/
noncomputable def elt_IntS (n : Nat) : Int × Unit := (((n + 0 : Nat) : Int), ())
def MkOut_IntS (n a : Nat) {B : Type} : Sum ((List (Int × Unit)) × Int × Unit) B → Prop
  | .inl y => y.2.1 = ((a + 1 * n : Nat) : Int) ∧ y.1.length = n ∧ ∀ j, j < n → y.1[j]? = some (elt_IntS (a + 1 * j))
  | .inr _ => False
theorem mh_IntS (xs : List (Int × Unit)) (a : Nat) (h : List.length xs ≤ 4194304) (ha : a ≤ 1073741824) : ∃ l, laws_markIntS xs ((a : Nat) : Int) = some (((a + 1 * List.length xs : Nat) : Int), l, ()) ∧ List.length l = List.length xs := by
  obtain ⟨e, he, hq⟩ := loop_inv (round := laws_markIntS_r0) (x := (xs, ((a : Nat) : Int), ((0 : Nat) : Int), ())) xs.length (fun k x => ∃ l : List (Int × Unit), x = (l, ((a + 1 * k : Nat) : Int), ((k : Nat) : Int), ()) ∧ l.length = xs.length ∧ ∀ j, j < k → l[j]? = some (elt_IntS (a + 1 * j)))
    (MkOut_IntS xs.length a) (by
    rintro x ⟨l, rfl, hl, hj⟩
    refine ⟨.inl (l, ((a + 1 * xs.length : Nat) : Int), ()), ?_, rfl, hl, hj⟩
    simp only [laws_markIntS_r0, laws_markIntS_c0, hl, lt_nat_irr, cond_false]) (by
    rintro k x hk ⟨l, rfl, hl, hj⟩
    have hkl : k < l.length := by omega
    refine .inr ⟨_, ?_, l.set k (elt_IntS (a + 1 * k)), rfl, by simp [hl], fun j hj' => ?_⟩
    · have e0 : ((a + 1 * k : Nat) : Int) = ((a + 1 * k + 0 : Nat) : Int) := rfl
      have e1 : IntKind.i64.wrap (((a + 1 * k + 0 : Nat) : Int) + (1 : Int)) = ((a + 1 * k + 1 : Nat) : Int) := by rw [wrap_id] <;> omega
      have ez : ((a + 1 * k + 1 : Nat) : Int) = ((a + 1 * (k + 1) : Nat) : Int) := by omega
      rw [e0]
      simp only [laws_markIntS_r0, laws_markIntS_c0, lt_nat_true hkl, zero_le_nat, cond_true, toNat_nat, List.length_set, blt_true hkl, List.getElem?_eq_getElem hkl, List.getElem?_set_self hkl, List.set_set, Option.bind_some, e1, ez, succ_wrap (show k < 4611686018427387904 by omega)]
      rfl
    · rw [List.getElem?_set]
      by_cases hjk : k = j
      · subst hjk
        rw [if_pos rfl, if_pos hkl]
      · rw [if_neg hjk]
        exact hj j (by omega)) ⟨xs, rfl, rfl, fun j hj => by omega⟩
  cases e with
  | inr e => exact hq.elim
  | inl e =>
    obtain ⟨q1, q2, q3⟩ := hq
    obtain ⟨l, m, u⟩ := e
    simp only at q1 q2 q3
    subst q1
    refine ⟨l, ?_, q2⟩
    · unfold laws_markIntS
      rw [show (0 : Int) = ((0 : Nat) : Int) from rfl, he]
      rfl


/-! markRing -/
theorem mh_Ring (a0c0 : Int) (a0c1 : List (Int × Unit)) (a : Nat) (h1 : List.length a0c1 ≤ 4194304) (ha : a ≤ 536870912) : ∃ l1, laws_markRing a0c0 a0c1 ((a : Nat) : Int) = some (((a + 1 * List.length a0c1 : Nat) : Int), l1, ()) ∧ List.length l1 = List.length a0c1 := by
  obtain ⟨l1, e0, nl1⟩ := mh_IntS a0c1 (a) h1 (by omega)
  refine ⟨l1, ?_, nl1⟩
  · simp only [laws_markRing, e0, Option.bind_some]

/-! markItemS -/
/-- The marks of one element. -/
noncomputable def elt_ItemS (n : Nat) : Int × Int × Int × ByteArray × Unit := (((n + 0 : Nat) : Int), ((n + 1 : Nat) : Int), ((n + 2 : Nat) : Int), markOf (n + 3), ())
def MkOut_ItemS (n a : Nat) {B : Type} : Sum ((List R_iiis) × Int × Unit) B → Prop
  | .inl y => y.2.1 = ((a + 4 * n : Nat) : Int) ∧ y.1.length = n ∧ ∀ j, j < n → y.1[j]? = some (elt_ItemS (a + 4 * j))
  | .inr _ => False
theorem mh_ItemS (xs : List R_iiis) (a : Nat) (h : List.length xs ≤ 4194304) (ha : a ≤ 1073741824) : ∃ l, laws_markItemS xs ((a : Nat) : Int) = some (((a + 4 * List.length xs : Nat) : Int), l, ()) ∧ laws_heldItemS l ((a : Nat) : Int) = some (((a + 4 * List.length xs : Nat) : Int), ()) ∧ List.length l = List.length xs := by
  obtain ⟨e, he, hq⟩ := loop_inv (round := laws_markItemS_r0) (x := (xs, ((a : Nat) : Int), ((0 : Nat) : Int), ())) xs.length (fun k x => ∃ l : List R_iiis, x = (l, ((a + 4 * k : Nat) : Int), ((k : Nat) : Int), ()) ∧ l.length = xs.length ∧ ∀ j, j < k → l[j]? = some (elt_ItemS (a + 4 * j)))
    (MkOut_ItemS xs.length a) (by
    rintro x ⟨l, rfl, hl, hj⟩
    refine ⟨.inl (l, ((a + 4 * xs.length : Nat) : Int), ()), ?_, rfl, hl, hj⟩
    simp only [laws_markItemS_r0, laws_markItemS_c0, hl, lt_nat_irr, cond_false]) (by
    rintro k x hk ⟨l, rfl, hl, hj⟩
    have hkl : k < l.length := by omega
    refine .inr ⟨_, ?_, l.set k (elt_ItemS (a + 4 * k)), rfl, by simp [hl], fun j hj' => ?_⟩
    · have e0 : ((a + 4 * k : Nat) : Int) = ((a + 4 * k + 0 : Nat) : Int) := rfl
      have e1 : IntKind.i64.wrap (((a + 4 * k + 0 : Nat) : Int) + (1 : Int)) = ((a + 4 * k + 1 : Nat) : Int) := by rw [wrap_id] <;> omega
      have e2 : IntKind.i64.wrap (((a + 4 * k + 1 : Nat) : Int) + (1 : Int)) = ((a + 4 * k + 2 : Nat) : Int) := by rw [wrap_id] <;> omega
      have e3 : IntKind.i64.wrap (((a + 4 * k + 2 : Nat) : Int) + (1 : Int)) = ((a + 4 * k + 3 : Nat) : Int) := by rw [wrap_id] <;> omega
      have e4 : IntKind.i64.wrap (((a + 4 * k + 3 : Nat) : Int) + (1 : Int)) = ((a + 4 * k + 4 : Nat) : Int) := by rw [wrap_id] <;> omega
      have ez : ((a + 4 * k + 4 : Nat) : Int) = ((a + 4 * (k + 1) : Nat) : Int) := by omega
      rw [e0]
      simp only [laws_markItemS_r0, laws_markItemS_c0, lt_nat_true hkl, zero_le_nat, cond_true, toNat_nat, List.length_set, blt_true hkl, List.getElem?_eq_getElem hkl, List.getElem?_set_self hkl, List.set_set, Option.bind_some, markOf_eq (show a + 4 * k + 3 < 1099511627776 by omega), e1, e2, e3, e4, ez, succ_wrap (show k < 4611686018427387904 by omega)]
      rfl
    · rw [List.getElem?_set]
      by_cases hjk : k = j
      · subst hjk
        rw [if_pos rfl, if_pos hkl]
      · rw [if_neg hjk]
        exact hj j (by omega)) ⟨xs, rfl, rfl, fun j hj => by omega⟩
  cases e with
  | inr e => exact hq.elim
  | inl e =>
    obtain ⟨q1, q2, q3⟩ := hq
    obtain ⟨l, m, u⟩ := e
    simp only at q1 q2 q3
    subst q1
    refine ⟨l, ?_, ?_, q2⟩
    · unfold laws_markItemS
      rw [show (0 : Int) = ((0 : Nat) : Int) from rfl, he]
      rfl
    · have hl := loop_run (round := laws_heldItemS_r0) (e := .inl (((a + 4 * xs.length : Nat) : Int), ())) xs.length (fun k => (l, ((a + 4 * k : Nat) : Int), ((k : Nat) : Int), ())) (by
        simp only [laws_heldItemS_r0, laws_heldItemS_c0, q2, lt_nat_irr, cond_false]) (fun k hk => by
        have hkl : k < l.length := by omega
        have hk3 : l[k]? = some (((a + 4 * k + 0 : Nat) : Int), ((a + 4 * k + 1 : Nat) : Int), ((a + 4 * k + 2 : Nat) : Int), markOf (a + 4 * k + 3), ()) := q3 k hk
        have e0 : ((a + 4 * k : Nat) : Int) = ((a + 4 * k + 0 : Nat) : Int) := rfl
        have e1 : IntKind.i64.wrap (((a + 4 * k + 0 : Nat) : Int) + (1 : Int)) = ((a + 4 * k + 1 : Nat) : Int) := by rw [wrap_id] <;> omega
        have e2 : IntKind.i64.wrap (((a + 4 * k + 1 : Nat) : Int) + (1 : Int)) = ((a + 4 * k + 2 : Nat) : Int) := by rw [wrap_id] <;> omega
        have e3 : IntKind.i64.wrap (((a + 4 * k + 2 : Nat) : Int) + (1 : Int)) = ((a + 4 * k + 3 : Nat) : Int) := by rw [wrap_id] <;> omega
        have e4 : IntKind.i64.wrap (((a + 4 * k + 3 : Nat) : Int) + (1 : Int)) = ((a + 4 * k + 4 : Nat) : Int) := by rw [wrap_id] <;> omega
        have ez : ((a + 4 * k + 4 : Nat) : Int) = ((a + 4 * (k + 1) : Nat) : Int) := by omega
        rw [e0]
        simp only [laws_heldItemS_r0, laws_heldItemS_c0, lt_nat_true hkl, zero_le_nat, cond_true, cond_false, toNat_nat, hk3, decide_true, strEq_self, Bool.not_true, Option.bind_some, markOf_eq (show a + 4 * k + 3 < 1099511627776 by omega), e1, e2, e3, e4, ez, succ_wrap (show k < 4611686018427387904 by omega)])
      unfold laws_heldItemS
      have hl : loopV laws_heldItemS_r0 (l, ((a + 4 * 0 : Nat) : Int), (0 : Int), ()) = _ := hl
      rw [Nat.mul_zero, Nat.add_zero] at hl
      rw [hl]
      rfl

/-! markBundleS -/
/-- How many marks a row takes. -/
def MN_iiiLiiisE (x : Int × Int × Int × (List R_iiis) × Unit) : Nat := 1 + 1 + 1 + 4 * List.length x.2.2.2.1
theorem mn_iiiLiiisE (x : Int × Int × Int × (List R_iiis) × Unit) : MN_iiiLiiisE x ≤ 4 * (1 + W_iiiLiiisE x) := by
  unfold MN_iiiLiiisE W_iiiLiiisE
  omega
theorem mnl_iiiLiiisE (xs : List (Int × Int × Int × (List R_iiis) × Unit)) : wl MN_iiiLiiisE xs ≤ 4 * (List.length xs + wl W_iiiLiiisE xs) := wl_scale _ _ 4 mn_iiiLiiisE xs
/-- A row that is marked from a number on. -/
def HD_BundleS (x : Int × Int × Int × (List R_iiis) × Unit) (n : Nat) (y : Int × Int × Int × (List R_iiis) × Unit) : Prop := True
theorem st_BundleS (l : List (Int × Int × Int × (List R_iiis) × Unit)) (k : Nat) (z : Int × Int × Int × (List R_iiis) × Unit) (n : Nat) (hk : k < l.length) (hk4 : k < 4611686018427387904) (hz : l[k]? = some z) (hw : W_iiiLiiisE z ≤ 4194304) (hn : n + MN_iiiLiiisE z ≤ 553648128) : ∃ y, HD_BundleS z n y ∧ laws_markBundleS_r0 (l, ((n : Nat) : Int), ((k : Nat) : Int), ()) = some (.inl (l.set k y, ((n + MN_iiiLiiisE z : Nat) : Int), ((k + 1 : Nat) : Int), ())) := by
  have hm : n + 1 + 1 + 1 + 4 * List.length z.2.2.2.1 = n + MN_iiiLiiisE z := by unfold MN_iiiLiiisE; omega
  have b0 : n ≤ 1073741824 := by omega
  have b1 : n + 1 ≤ 1073741824 := by omega
  have b2 : n + 1 + 1 ≤ 1073741824 := by omega
  have b3 : n + 1 + 1 + 1 ≤ 1073741824 := by omega
  have hw0 : W_iiiLiiisE z = (List.length z.2.2.2.1 + wl W_iiis z.2.2.2.1) := rfl
  obtain ⟨l3, e3, g3, _⟩ := mh_ItemS z.2.2.2.1 (n + 1 + 1 + 1) (by omega) (by omega)
  refine ⟨(((n : Nat) : Int), ((n + 1 : Nat) : Int), ((n + 1 + 1 : Nat) : Int), l3, ()), trivial, ?_⟩
  rw [← hm]
  simp only [laws_markBundleS_r0, laws_markBundleS_c0, lt_nat_true hk, zero_le_nat, cond_true, toNat_nat, List.length_set, blt_true hk, hz, List.getElem?_set_self hk, List.set_set, Option.bind_some, e3, succ_w b0, succ_w b1, succ_w b2, succ_wrap hk4]
theorem mh_BundleS (xs : List (Int × Int × Int × (List R_iiis) × Unit)) (a : Nat) (h : List.length xs + wl W_iiiLiiisE xs ≤ 4194304) (ha : a ≤ 536870912) : ∃ l, laws_markBundleS xs ((a : Nat) : Int) = some (((a + wl MN_iiiLiiisE xs : Nat) : Int), l, ()) ∧ (List.length l = List.length xs ∧ wl MN_iiiLiiisE xs ≤ 4 * (List.length xs + wl W_iiiLiiisE xs)) := by
  have hm := mnl_iiiLiiisE xs
  obtain ⟨l, h1, h2, h3⟩ := mark_loop MN_iiiLiiisE HD_BundleS laws_markBundleS_r0 xs a (fun l m hl => by simp only [laws_markBundleS_r0, laws_markBundleS_c0, hl, lt_nat_irr, cond_false]) (fun l k hk n hl hz hn => st_BundleS l k xs[k] n (by omega) (by omega) hz (Nat.le_trans (wl_mem W_iiiLiiisE xs _ (List.getElem_mem hk)) (by omega)) (by omega))
  refine ⟨l, ?_, h2, hm⟩
  unfold laws_markBundleS
  rw [h1]
  rfl

end Go.TM
