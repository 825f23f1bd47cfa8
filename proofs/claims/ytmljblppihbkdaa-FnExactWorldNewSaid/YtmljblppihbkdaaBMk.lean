/- Marks: what the laws write they find again. -/
import Derived.Test.YtmljblppihbkdaaBPMarkDeep
set_option linter.unusedSimpArgs false
set_option linter.unusedVariables false
namespace Go.TM
open Go

/-! markIntS -/
/-- The marks of one element. -/
noncomputable def elt_IntS (n : Nat) : Int × Unit := (((n + 0 : Nat) : Int), ())
def MkOut_IntS (n a : Nat) {B : Type} : Sum ((List (Int × Unit)) × Int × Unit) B → Prop
  | .inl y => y.2.1 = ((a + 1 * n : Nat) : Int) ∧ y.1.length = n ∧ ∀ j, j < n → y.1[j]? = some (elt_IntS (a + 1 * j))
  | .inr _ => False
theorem mh_IntS (xs : List (Int × Unit)) (a : Nat) (h : List.length xs ≤ 4194304) (ha : a ≤ 1073741824) : ∃ l, laws_markIntS xs ((a : Nat) : Int) = some (((a + 1 * List.length xs : Nat) : Int), l, ()) ∧ laws_heldIntS l ((a : Nat) : Int) = some (((a + 1 * List.length xs : Nat) : Int), ()) ∧ List.length l = List.length xs := by
  obtain ⟨e, he, hq⟩ := loop_inv (round := laws_markIntS_r0) (x := (xs, ((a : Nat) : Int), ((0 : Nat) : Int), ())) xs.length (fun k x => ∃ l : List (Int × Unit), x = (l, ((a + 1 * k : Nat) : Int), ((k : Nat) : Int), ()) ∧ l.length = xs.length ∧ ∀ j, j < k → l[j]? = some (elt_IntS (a + 1 * j)))
    (MkOut_IntS xs.length a) (by
    rintro x ⟨l, rfl, hl, hj⟩
    refine ⟨.inl (l, ((a + 1 * xs.length : Nat) : Int), ()), ?_, rfl, hl, hj⟩
    simp only [laws_markIntS_r0, laws_markIntS_c0, hl, lt_nat_irr, cond_false]) (by
    rintro k x hk ⟨l, rfl, hl, hj⟩
    have hkl : k < l.length := by omega
    refine .inr ⟨_, ?_, l.set k (elt_IntS (a + 1 * k)), rfl, by simp [hl], fun j hj' => ?_⟩
    · have e0 : ((a + 1 * k : Nat) : Int) = ((a + 1 * k + 0 : Nat) : Int) := rfl
      have e1 : IntKind.i64.wrap (((a + 1 * k + 0 : Nat) : Int) + (1 : Int)) = ((a + 1 * k + 1 : Nat) : Int) := by rw [wrap_id] <;> omega
      have ez : ((a + 1 * k + 1 : Nat) : Int) = ((a + 1 * (k + 1) : Nat) : Int) := by omega
      rw [e0]
      simp only [laws_markIntS_r0, laws_markIntS_c0, lt_nat_true hkl, zero_le_nat, cond_true, toNat_nat, List.length_set, blt_true hkl, List.getElem?_eq_getElem hkl, List.getElem?_set_self hkl, List.set_set, Option.bind_some, e1, ez, succ_wrap (show k < 4611686018427387904 by omega)]
      rfl
    · rw [List.getElem?_set]
      by_cases hjk : k = j
      · subst hjk
        rw [if_pos rfl, if_pos hkl]
      · rw [if_neg hjk]
        exact hj j (by omega)) ⟨xs, rfl, rfl, fun j hj => by omega⟩
  cases e with
  | inr e => exact hq.elim
  | inl e =>
    obtain ⟨q1, q2, q3⟩ := hq
    obtain ⟨l, m, u⟩ := e
    simp only at q1 q2 q3
    subst q1
    refine ⟨l, ?_, ?_, q2⟩
    · unfold laws_markIntS
      rw [show (0 : Int) = ((0 : Nat) : Int) from rfl, he]
      rfl
    · have hl := loop_run (round := laws_heldIntS_r0) (e := .inl (((a + 1 * xs.length : Nat) : Int), ())) xs.length (fun k => (l, ((a + 1 * k : Nat) : Int), ((k : Nat) : Int), ())) (by
        simp only [laws_heldIntS_r0, laws_heldIntS_c0, q2, lt_nat_irr, cond_false]) (fun k hk => by
        have hkl : k < l.length := by omega
        have hk3 : l[k]? = some (((a + 1 * k + 0 : Nat) : Int), ()) := q3 k hk
        have e0 : ((a + 1 * k : Nat) : Int) = ((a + 1 * k + 0 : Nat) : Int) := rfl
        have e1 : IntKind.i64.wrap (((a + 1 * k + 0 : Nat) : Int) + (1 : Int)) = ((a + 1 * k + 1 : Nat) : Int) := by rw [wrap_id] <;> omega
        have ez : ((a + 1 * k + 1 : Nat) : Int) = ((a + 1 * (k + 1) : Nat) : Int) := by omega
        rw [e0]
        simp only [laws_heldIntS_r0, laws_heldIntS_c0, lt_nat_true hkl, zero_le_nat, cond_true, cond_false, toNat_nat, hk3, decide_true, strEq_self, Bool.not_true, Option.bind_some, e1, ez, succ_wrap (show k < 4611686018427387904 by omega)])
      unfold laws_heldIntS
      have hl : loopV laws_heldIntS_r0 (l, ((a + 1 * 0 : Nat) : Int), (0 : Int), ()) = _ := hl
      rw [Nat.mul_zero, Nat.add_zero] at hl
      rw [hl]
      rfl

/-! markRingS -/
/-- How many marks a row takes. -/
def MN_iLiE (x : Int × (List (Int × Unit)) × Unit) : Nat := 1 + 1 * List.length x.2.1
theorem mn_iLiE (x : Int × (List (Int × Unit)) × Unit) : MN_iLiE x ≤ 1 * (1 + W_iLiE x) := by
  unfold MN_iLiE W_iLiE
  omega
theorem mnl_iLiE (xs : List (Int × (List (Int × Unit)) × Unit)) : wl MN_iLiE xs ≤ 1 * (List.length xs + wl W_iLiE xs) := wl_scale _ _ 1 mn_iLiE xs
/-- A row that is marked from a number on. -/
def HD_RingS (x : Int × (List (Int × Unit)) × Unit) (n : Nat) (y : Int × (List (Int × Unit)) × Unit) : Prop := y.1 = ((n : Nat) : Int) ∧ laws_heldIntS y.2.1 ((n + 1 : Nat) : Int) = some (((n + 1 + 1 * List.length x.2.1 : Nat) : Int), ())
theorem st_RingS (l : List (Int × (List (Int × Unit)) × Unit)) (k : Nat) (z : Int × (List (Int × Unit)) × Unit) (n : Nat) (hk : k < l.length) (hk4 : k < 4611686018427387904) (hz : l[k]? = some z) (hw : W_iLiE z ≤ 4194304) (hn : n + MN_iLiE z ≤ 541065216) : ∃ y, HD_RingS z n y ∧ laws_markRingS_r0 (l, ((n : Nat) : Int), ((k : Nat) : Int), ()) = some (.inl (l.set k y, ((n + MN_iLiE z : Nat) : Int), ((k + 1 : Nat) : Int), ())) := by
  have hm : n + 1 + 1 * List.length z.2.1 = n + MN_iLiE z := by unfold MN_iLiE; omega
  have b0 : n ≤ 1073741824 := by omega
  have b1 : n + 1 ≤ 1073741824 := by omega
  have hw0 : W_iLiE z = (List.length z.2.1 + wl W_i z.2.1) := rfl
  obtain ⟨l1, e1, g1, _⟩ := mh_IntS z.2.1 (n + 1) (by omega) (by omega)
  refine ⟨(((n : Nat) : Int), l1, ()), ⟨rfl, g1⟩, ?_⟩
  rw [← hm]
  simp only [laws_markRingS_r0, laws_markRingS_c0, lt_nat_true hk, zero_le_nat, cond_true, toNat_nat, List.length_set, blt_true hk, hz, List.getElem?_set_self hk, List.set_set, Option.bind_some, e1, succ_w b0, succ_wrap hk4]
theorem sh_RingS (l : List (Int × (List (Int × Unit)) × Unit)) (k : Nat) (z y : Int × (List (Int × Unit)) × Unit) (n : Nat) (hk : k < l.length) (hk4 : k < 4611686018427387904) (hy : l[k]? = some y) (hd : HD_RingS z n y) (hn : n + MN_iLiE z ≤ 541065216) : laws_heldRingS_r0 (l, ((n : Nat) : Int), ((k : Nat) : Int), ()) = some (.inl (l, ((n + MN_iLiE z : Nat) : Int), ((k + 1 : Nat) : Int), ())) := by
  have hm : n + 1 + 1 * List.length z.2.1 = n + MN_iLiE z := by unfold MN_iLiE; omega
  have b0 : n ≤ 1073741824 := by omega
  have b1 : n + 1 ≤ 1073741824 := by omega
  obtain ⟨h0, h1⟩ := hd
  rw [← hm]
  simp only [laws_heldRingS_r0, laws_heldRingS_c0, lt_nat_true hk, zero_le_nat, cond_true, cond_false, toNat_nat, hy, decide_true, strEq_self, beq_self_eq_true, Bool.not_true, Option.bind_some, h0, h1, succ_w b0, nat_neg, succ_wrap hk4]
theorem mh_RingS (xs : List (Int × (List (Int × Unit)) × Unit)) (a : Nat) (h : List.length xs + wl W_iLiE xs ≤ 4194304) (ha : a ≤ 536870912) : ∃ l, laws_markRingS xs ((a : Nat) : Int) = some (((a + wl MN_iLiE xs : Nat) : Int), l, ()) ∧ laws_heldRingS l ((a : Nat) : Int) = some (((a + wl MN_iLiE xs : Nat) : Int), ()) ∧ (List.length l = List.length xs ∧ wl MN_iLiE xs ≤ 1 * (List.length xs + wl W_iLiE xs)) := by
  have hm := mnl_iLiE xs
  obtain ⟨l, h1, h2, h3⟩ := mark_loop MN_iLiE HD_RingS laws_markRingS_r0 xs a (fun l m hl => by simp only [laws_markRingS_r0, laws_markRingS_c0, hl, lt_nat_irr, cond_false]) (fun l k hk n hl hz hn => st_RingS l k xs[k] n (by omega) (by omega) hz (Nat.le_trans (wl_mem W_iLiE xs _ (List.getElem_mem hk)) (by omega)) (by omega))
  refine ⟨l, ?_, ?_, h2, hm⟩
  · unfold laws_markRingS
    rw [h1]
    rfl
  · have h4 := held_loop MN_iLiE HD_RingS laws_heldRingS_r0 xs l a h2 h3 (fun m => by simp only [laws_heldRingS_r0, laws_heldRingS_c0, h2, lt_nat_irr, cond_false]) (fun k hk n y hk' hy hd hn => sh_RingS l k xs[k] y n hk' (by omega) hy hd (by omega))
    unfold laws_heldRingS
    rw [h4]
    rfl

/-! markItemS -/
/-- The marks of one element. -/
noncomputable def elt_ItemS (n : Nat) : Int × Int × Int × ByteArray × Unit := (((n + 0 : Nat) : Int), ((n + 1 : Nat) : Int), ((n + 2 : Nat) : Int), markOf (n + 3), ())
def MkOut_ItemS (n a : Nat) {B : Type} : Sum ((List R_iiis) × Int × Unit) B → Prop
  | .inl y => y.2.1 = ((a + 4 * n : Nat) : Int) ∧ y.1.length = n ∧ ∀ j, j < n → y.1[j]? = some (elt_ItemS (a + 4 * j))
  | .inr _ => False
theorem mh_ItemS (xs : List R_iiis) (a : Nat) (h : List.length xs ≤ 4194304) (ha : a ≤ 1073741824) : ∃ l, laws_markItemS xs ((a : Nat) : Int) = some (((a + 4 * List.length xs : Nat) : Int), l, ()) ∧ laws_heldItemS l ((a : Nat) : Int) = some (((a + 4 * List.length xs : Nat) : Int), ()) ∧ List.length l = List.length xs := by
  obtain ⟨e, he, hq⟩ := loop_inv (round := laws_markItemS_r0) (x := (xs, ((a : Nat) : Int), ((0 : Nat) : Int), ())) xs.length (fun k x => ∃ l : List R_iiis, x = (l, ((a + 4 * k : Nat) : Int), ((k : Nat) : Int), ()) ∧ l.length = xs.length ∧ ∀ j, j < k → l[j]? = some (elt_ItemS (a + 4 * j)))
    (MkOut_ItemS xs.length a) (by
    rintro x ⟨l, rfl, hl, hj⟩
    refine ⟨.inl (l, ((a + 4 * xs.length : Nat) : Int), ()), ?_, rfl, hl, hj⟩
    simp only [laws_markItemS_r0, laws_markItemS_c0, hl, lt_nat_irr, cond_false]) (by
    rintro k x hk ⟨l, rfl, hl, hj⟩
    have hkl : k < l.length := by omega
    refine .inr ⟨_, ?_, l.set k (elt_ItemS (a + 4 * k)), rfl, by simp [hl], fun j hj' => ?_⟩
    · have e0 : ((a + 4 * k : Nat) : Int) = ((a + 4 * k + 0 : Nat) : Int) := rfl
      have e1 : IntKind.i64.wrap (((a + 4 * k + 0 : Nat) : Int) + (1 : Int)) = ((a + 4 * k + 1 : Nat) : Int) := by rw [wrap_id] <;> omega
      have e2 : IntKind.i64.wrap (((a + 4 * k + 1 : Nat) : Int) + (1 : Int)) = ((a + 4 * k + 2 : Nat) : Int) := by rw [wrap_id] <;> omega
      have e3 : IntKind.i64.wrap (((a + 4 * k + 2 : Nat) : Int) + (1 : Int)) = ((a + 4 * k + 3 : Nat) : Int) := by rw [wrap_id] <;> omega
      have e4 : IntKind.i64.wrap (((a + 4 * k + 3 : Nat) : Int) + (1 : Int)) = ((a + 4 * k + 4 : Nat) : Int) := by rw [wrap_id] <;> omega
      have ez : ((a + 4 * k + 4 : Nat) : Int) = ((a + 4 * (k + 1) : Nat) : Int) := by omega
      rw [e0]
      simp only [laws_markItemS_r0, laws_markItemS_c0, lt_nat_true hkl, zero_le_nat, cond_true, toNat_nat, List.length_set, blt_true hkl, List.getElem?_eq_getElem hkl, List.getElem?_set_self hkl, List.set_set, Option.bind_some, markOf_eq (show a + 4 * k + 3 < 1099511627776 by omega), e1, e2, e3, e4, ez, succ_wrap (show k < 4611686018427387904 by omega)]
      rfl
    · rw [List.getElem?_set]
      by_cases hjk : k = j
      · subst hjk
        rw [if_pos rfl, if_pos hkl]
      · rw [if_neg hjk]
        exact hj j (by omega)) ⟨xs, rfl, rfl, fun j hj => by omega⟩
  cases e with
  | inr e => exact hq.elim
  | inl e =>
    obtain ⟨q1, q2, q3⟩ := hq
    obtain ⟨l, m, u⟩ := e
    simp only at q1 q2 q3
    subst q1
    refine ⟨l, ?_, ?_, q2⟩
    · unfold laws_markItemS
      rw [show (0 : Int) = ((0 : Nat) : Int) from rfl, he]
      rfl
    · have hl := loop_run (round := laws_heldItemS_r0) (e := .inl (((a + 4 * xs.length : Nat) : Int), ())) xs.length (fun k => (l, ((a + 4 * k : Nat) : Int), ((k : Nat) : Int), ())) (by
        simp only [laws_heldItemS_r0, laws_heldItemS_c0, q2, lt_nat_irr, cond_false]) (fun k hk => by
        have hkl : k < l.length := by omega
        have hk3 : l[k]? = some (((a + 4 * k + 0 : Nat) : Int), ((a + 4 * k + 1 : Nat) : Int), ((a + 4 * k + 2 : Nat) : Int), markOf (a + 4 * k + 3), ()) := q3 k hk
        have e0 : ((a + 4 * k : Nat) : Int) = ((a + 4 * k + 0 : Nat) : Int) := rfl
        have e1 : IntKind.i64.wrap (((a + 4 * k + 0 : Nat) : Int) + (1 : Int)) = ((a + 4 * k + 1 : Nat) : Int) := by rw [wrap_id] <;> omega
        have e2 : IntKind.i64.wrap (((a + 4 * k + 1 : Nat) : Int) + (1 : Int)) = ((a + 4 * k + 2 : Nat) : Int) := by rw [wrap_id] <;> omega
        have e3 : IntKind.i64.wrap (((a + 4 * k + 2 : Nat) : Int) + (1 : Int)) = ((a + 4 * k + 3 : Nat) : Int) := by rw [wrap_id] <;> omega
        have e4 : IntKind.i64.wrap (((a + 4 * k + 3 : Nat) : Int) + (1 : Int)) = ((a + 4 * k + 4 : Nat) : Int) := by rw [wrap_id] <;> omega
        have ez : ((a + 4 * k + 4 : Nat) : Int) = ((a + 4 * (k + 1) : Nat) : Int) := by omega
        rw [e0]
        simp only [laws_heldItemS_r0, laws_heldItemS_c0, lt_nat_true hkl, zero_le_nat, cond_true, cond_false, toNat_nat, hk3, decide_true, strEq_self, Bool.not_true, Option.bind_some, markOf_eq (show a + 4 * k + 3 < 1099511627776 by omega), e1, e2, e3, e4, ez, succ_wrap (show k < 4611686018427387904 by omega)])
      unfold laws_heldItemS
      have hl : loopV laws_heldItemS_r0 (l, ((a + 4 * 0 : Nat) : Int), (0 : Int), ()) = _ := hl
      rw [Nat.mul_zero, Nat.add_zero] at hl
      rw [hl]
      rfl

/-! markStringS -/
/-- The marks of one element. -/
noncomputable def elt_StringS (n : Nat) : ByteArray × Unit := (markOf (n + 0), ())
def MkOut_StringS (n a : Nat) {B : Type} : Sum ((List (ByteArray × Unit)) × Int × Unit) B → Prop
  | .inl y => y.2.1 = ((a + 1 * n : Nat) : Int) ∧ y.1.length = n ∧ ∀ j, j < n → y.1[j]? = some (elt_StringS (a + 1 * j))
  | .inr _ => False
theorem mh_StringS (xs : List (ByteArray × Unit)) (a : Nat) (h : List.length xs ≤ 4194304) (ha : a ≤ 1073741824) : ∃ l, laws_markStringS xs ((a : Nat) : Int) = some (((a + 1 * List.length xs : Nat) : Int), l, ()) ∧ laws_heldStringS l ((a : Nat) : Int) = some (((a + 1 * List.length xs : Nat) : Int), ()) ∧ List.length l = List.length xs := by
  obtain ⟨e, he, hq⟩ := loop_inv (round := laws_markStringS_r0) (x := (xs, ((a : Nat) : Int), ((0 : Nat) : Int), ())) xs.length (fun k x => ∃ l : List (ByteArray × Unit), x = (l, ((a + 1 * k : Nat) : Int), ((k : Nat) : Int), ()) ∧ l.length = xs.length ∧ ∀ j, j < k → l[j]? = some (elt_StringS (a + 1 * j)))
    (MkOut_StringS xs.length a) (by
    rintro x ⟨l, rfl, hl, hj⟩
    refine ⟨.inl (l, ((a + 1 * xs.length : Nat) : Int), ()), ?_, rfl, hl, hj⟩
    simp only [laws_markStringS_r0, laws_markStringS_c0, hl, lt_nat_irr, cond_false]) (by
    rintro k x hk ⟨l, rfl, hl, hj⟩
    have hkl : k < l.length := by omega
    refine .inr ⟨_, ?_, l.set k (elt_StringS (a + 1 * k)), rfl, by simp [hl], fun j hj' => ?_⟩
    · have e0 : ((a + 1 * k : Nat) : Int) = ((a + 1 * k + 0 : Nat) : Int) := rfl
      have e1 : IntKind.i64.wrap (((a + 1 * k + 0 : Nat) : Int) + (1 : Int)) = ((a + 1 * k + 1 : Nat) : Int) := by rw [wrap_id] <;> omega
      have ez : ((a + 1 * k + 1 : Nat) : Int) = ((a + 1 * (k + 1) : Nat) : Int) := by omega
      rw [e0]
      simp only [laws_markStringS_r0, laws_markStringS_c0, lt_nat_true hkl, zero_le_nat, cond_true, toNat_nat, List.length_set, blt_true hkl, List.getElem?_eq_getElem hkl, List.getElem?_set_self hkl, List.set_set, Option.bind_some, markOf_eq (show a + 1 * k + 0 < 1099511627776 by omega), e1, ez, succ_wrap (show k < 4611686018427387904 by omega)]
      rfl
    · rw [List.getElem?_set]
      by_cases hjk : k = j
      · subst hjk
        rw [if_pos rfl, if_pos hkl]
      · rw [if_neg hjk]
        exact hj j (by omega)) ⟨xs, rfl, rfl, fun j hj => by omega⟩
  cases e with
  | inr e => exact hq.elim
  | inl e =>
    obtain ⟨q1, q2, q3⟩ := hq
    obtain ⟨l, m, u⟩ := e
    simp only at q1 q2 q3
    subst q1
    refine ⟨l, ?_, ?_, q2⟩
    · unfold laws_markStringS
      rw [show (0 : Int) = ((0 : Nat) : Int) from rfl, he]
      rfl
    · have hl := loop_run (round := laws_heldStringS_r0) (e := .inl (((a + 1 * xs.length : Nat) : Int), ())) xs.length (fun k => (l, ((a + 1 * k : Nat) : Int), ((k : Nat) : Int), ())) (by
        simp only [laws_heldStringS_r0, laws_heldStringS_c0, q2, lt_nat_irr, cond_false]) (fun k hk => by
        have hkl : k < l.length := by omega
        have hk3 : l[k]? = some (markOf (a + 1 * k + 0), ()) := q3 k hk
        have e0 : ((a + 1 * k : Nat) : Int) = ((a + 1 * k + 0 : Nat) : Int) := rfl
        have e1 : IntKind.i64.wrap (((a + 1 * k + 0 : Nat) : Int) + (1 : Int)) = ((a + 1 * k + 1 : Nat) : Int) := by rw [wrap_id] <;> omega
        have ez : ((a + 1 * k + 1 : Nat) : Int) = ((a + 1 * (k + 1) : Nat) : Int) := by omega
        rw [e0]
        simp only [laws_heldStringS_r0, laws_heldStringS_c0, lt_nat_true hkl, zero_le_nat, cond_true, cond_false, toNat_nat, hk3, decide_true, strEq_self, Bool.not_true, Option.bind_some, markOf_eq (show a + 1 * k + 0 < 1099511627776 by omega), e1, ez, succ_wrap (show k < 4611686018427387904 by omega)])
      unfold laws_heldStringS
      have hl : loopV laws_heldStringS_r0 (l, ((a + 1 * 0 : Nat) : Int), (0 : Int), ()) = _ := hl
      rw [Nat.mul_zero, Nat.add_zero] at hl
      rw [hl]
      rfl

/-! markBundleS -/
/-- How many marks a row takes. -/
def MN_iiiLiiisE (x : Int × Int × Int × (List R_iiis) × Unit) : Nat := 1 + 1 + 1 + 4 * List.length x.2.2.2.1
theorem mn_iiiLiiisE (x : Int × Int × Int × (List R_iiis) × Unit) : MN_iiiLiiisE x ≤ 4 * (1 + W_iiiLiiisE x) := by
  unfold MN_iiiLiiisE W_iiiLiiisE
  omega
theorem mnl_iiiLiiisE (xs : List (Int × Int × Int × (List R_iiis) × Unit)) : wl MN_iiiLiiisE xs ≤ 4 * (List.length xs + wl W_iiiLiiisE xs) := wl_scale _ _ 4 mn_iiiLiiisE xs
/-- A row that is marked from a number on. -/
def HD_BundleS (x : Int × Int × Int × (List R_iiis) × Unit) (n : Nat) (y : Int × Int × Int × (List R_iiis) × Unit) : Prop := y.1 = ((n : Nat) : Int) ∧ y.2.1 = ((n + 1 : Nat) : Int) ∧ y.2.2.1 = ((n + 1 + 1 : Nat) : Int) ∧ laws_heldItemS y.2.2.2.1 ((n + 1 + 1 + 1 : Nat) : Int) = some (((n + 1 + 1 + 1 + 4 * List.length x.2.2.2.1 : Nat) : Int), ())
theorem st_BundleS (l : List (Int × Int × Int × (List R_iiis) × Unit)) (k : Nat) (z : Int × Int × Int × (List R_iiis) × Unit) (n : Nat) (hk : k < l.length) (hk4 : k < 4611686018427387904) (hz : l[k]? = some z) (hw : W_iiiLiiisE z ≤ 4194304) (hn : n + MN_iiiLiiisE z ≤ 553648128) : ∃ y, HD_BundleS z n y ∧ laws_markBundleS_r0 (l, ((n : Nat) : Int), ((k : Nat) : Int), ()) = some (.inl (l.set k y, ((n + MN_iiiLiiisE z : Nat) : Int), ((k + 1 : Nat) : Int), ())) := by
  have hm : n + 1 + 1 + 1 + 4 * List.length z.2.2.2.1 = n + MN_iiiLiiisE z := by unfold MN_iiiLiiisE; omega
  have b0 : n ≤ 1073741824 := by omega
  have b1 : n + 1 ≤ 1073741824 := by omega
  have b2 : n + 1 + 1 ≤ 1073741824 := by omega
  have b3 : n + 1 + 1 + 1 ≤ 1073741824 := by omega
  have hw0 : W_iiiLiiisE z = (List.length z.2.2.2.1 + wl W_iiis z.2.2.2.1) := rfl
  obtain ⟨l3, e3, g3, _⟩ := mh_ItemS z.2.2.2.1 (n + 1 + 1 + 1) (by omega) (by omega)
  refine ⟨(((n : Nat) : Int), ((n + 1 : Nat) : Int), ((n + 1 + 1 : Nat) : Int), l3, ()), ⟨rfl, rfl, rfl, g3⟩, ?_⟩
  rw [← hm]
  simp only [laws_markBundleS_r0, laws_markBundleS_c0, lt_nat_true hk, zero_le_nat, cond_true, toNat_nat, List.length_set, blt_true hk, hz, List.getElem?_set_self hk, List.set_set, Option.bind_some, e3, succ_w b0, succ_w b1, succ_w b2, succ_wrap hk4]
theorem sh_BundleS (l : List (Int × Int × Int × (List R_iiis) × Unit)) (k : Nat) (z y : Int × Int × Int × (List R_iiis) × Unit) (n : Nat) (hk : k < l.length) (hk4 : k < 4611686018427387904) (hy : l[k]? = some y) (hd : HD_BundleS z n y) (hn : n + MN_iiiLiiisE z ≤ 553648128) : laws_heldBundleS_r0 (l, ((n : Nat) : Int), ((k : Nat) : Int), ()) = some (.inl (l, ((n + MN_iiiLiiisE z : Nat) : Int), ((k + 1 : Nat) : Int), ())) := by
  have hm : n + 1 + 1 + 1 + 4 * List.length z.2.2.2.1 = n + MN_iiiLiiisE z := by unfold MN_iiiLiiisE; omega
  have b0 : n ≤ 1073741824 := by omega
  have b1 : n + 1 ≤ 1073741824 := by omega
  have b2 : n + 1 + 1 ≤ 1073741824 := by omega
  have b3 : n + 1 + 1 + 1 ≤ 1073741824 := by omega
  obtain ⟨h0, h1, h2, h3⟩ := hd
  rw [← hm]
  simp only [laws_heldBundleS_r0, laws_heldBundleS_c0, lt_nat_true hk, zero_le_nat, cond_true, cond_false, toNat_nat, hy, decide_true, strEq_self, beq_self_eq_true, Bool.not_true, Option.bind_some, h0, h1, h2, h3, succ_w b0, succ_w b1, succ_w b2, nat_neg, succ_wrap hk4]
theorem mh_BundleS (xs : List (Int × Int × Int × (List R_iiis) × Unit)) (a : Nat) (h : List.length xs + wl W_iiiLiiisE xs ≤ 4194304) (ha : a ≤ 536870912) : ∃ l, laws_markBundleS xs ((a : Nat) : Int) = some (((a + wl MN_iiiLiiisE xs : Nat) : Int), l, ()) ∧ laws_heldBundleS l ((a : Nat) : Int) = some (((a + wl MN_iiiLiiisE xs : Nat) : Int), ()) ∧ (List.length l = List.length xs ∧ wl MN_iiiLiiisE xs ≤ 4 * (List.length xs + wl W_iiiLiiisE xs)) := by
  have hm := mnl_iiiLiiisE xs
  obtain ⟨l, h1, h2, h3⟩ := mark_loop MN_iiiLiiisE HD_BundleS laws_markBundleS_r0 xs a (fun l m hl => by simp only [laws_markBundleS_r0, laws_markBundleS_c0, hl, lt_nat_irr, cond_false]) (fun l k hk n hl hz hn => st_BundleS l k xs[k] n (by omega) (by omega) hz (Nat.le_trans (wl_mem W_iiiLiiisE xs _ (List.getElem_mem hk)) (by omega)) (by omega))
  refine ⟨l, ?_, ?_, h2, hm⟩
  · unfold laws_markBundleS
    rw [h1]
    rfl
  · have h4 := held_loop MN_iiiLiiisE HD_BundleS laws_heldBundleS_r0 xs l a h2 h3 (fun m => by simp only [laws_heldBundleS_r0, laws_heldBundleS_c0, h2, lt_nat_irr, cond_false]) (fun k hk n y hk' hy hd hn => sh_BundleS l k xs[k] y n hk' (by omega) hy hd (by omega))
    unfold laws_heldBundleS
    rw [h4]
    rfl

/-! markEventS -/
/-- How many marks a row takes. -/
def MN_iiLiEiiisLiE (x : Int × Int × (List (Int × Unit)) × Int × Int × Int × ByteArray × (List (Int × Unit)) × Unit) : Nat := 1 + 1 + 1 * List.length x.2.2.1 + 1 + 1 + 1 + 1 + 1 * List.length x.2.2.2.2.2.2.2.1
theorem mn_iiLiEiiisLiE (x : Int × Int × (List (Int × Unit)) × Int × Int × Int × ByteArray × (List (Int × Unit)) × Unit) : MN_iiLiEiiisLiE x ≤ 6 * (1 + W_iiLiEiiisLiE x) := by
  unfold MN_iiLiEiiisLiE W_iiLiEiiisLiE
  omega
theorem mnl_iiLiEiiisLiE (xs : List (Int × Int × (List (Int × Unit)) × Int × Int × Int × ByteArray × (List (Int × Unit)) × Unit)) : wl MN_iiLiEiiisLiE xs ≤ 6 * (List.length xs + wl W_iiLiEiiisLiE xs) := wl_scale _ _ 6 mn_iiLiEiiisLiE xs
/-- A row that is marked from a number on. -/
def HD_EventS (x : Int × Int × (List (Int × Unit)) × Int × Int × Int × ByteArray × (List (Int × Unit)) × Unit) (n : Nat) (y : Int × Int × (List (Int × Unit)) × Int × Int × Int × ByteArray × (List (Int × Unit)) × Unit) : Prop := y.1 = ((n : Nat) : Int) ∧ y.2.1 = ((n + 1 : Nat) : Int) ∧ laws_heldIntS y.2.2.1 ((n + 1 + 1 : Nat) : Int) = some (((n + 1 + 1 + 1 * List.length x.2.2.1 : Nat) : Int), ()) ∧ y.2.2.2.1 = ((n + 1 + 1 + 1 * List.length x.2.2.1 : Nat) : Int) ∧ y.2.2.2.2.1 = ((n + 1 + 1 + 1 * List.length x.2.2.1 + 1 : Nat) : Int) ∧ y.2.2.2.2.2.1 = ((n + 1 + 1 + 1 * List.length x.2.2.1 + 1 + 1 : Nat) : Int) ∧ y.2.2.2.2.2.2.1 = markOf (n + 1 + 1 + 1 * List.length x.2.2.1 + 1 + 1 + 1) ∧ laws_heldIntS y.2.2.2.2.2.2.2.1 ((n + 1 + 1 + 1 * List.length x.2.2.1 + 1 + 1 + 1 + 1 : Nat) : Int) = some (((n + 1 + 1 + 1 * List.length x.2.2.1 + 1 + 1 + 1 + 1 + 1 * List.length x.2.2.2.2.2.2.2.1 : Nat) : Int), ())
theorem st_EventS (l : List (Int × Int × (List (Int × Unit)) × Int × Int × Int × ByteArray × (List (Int × Unit)) × Unit)) (k : Nat) (z : Int × Int × (List (Int × Unit)) × Int × Int × Int × ByteArray × (List (Int × Unit)) × Unit) (n : Nat) (hk : k < l.length) (hk4 : k < 4611686018427387904) (hz : l[k]? = some z) (hw : W_iiLiEiiisLiE z ≤ 4194304) (hn : n + MN_iiLiEiiisLiE z ≤ 562036736) : ∃ y, HD_EventS z n y ∧ laws_markEventS_r0 (l, ((n : Nat) : Int), ((k : Nat) : Int), ()) = some (.inl (l.set k y, ((n + MN_iiLiEiiisLiE z : Nat) : Int), ((k + 1 : Nat) : Int), ())) := by
  have hm : n + 1 + 1 + 1 * List.length z.2.2.1 + 1 + 1 + 1 + 1 + 1 * List.length z.2.2.2.2.2.2.2.1 = n + MN_iiLiEiiisLiE z := by unfold MN_iiLiEiiisLiE; omega
  have b0 : n ≤ 1073741824 := by omega
  have b1 : n + 1 ≤ 1073741824 := by omega
  have b2 : n + 1 + 1 ≤ 1073741824 := by omega
  have b3 : n + 1 + 1 + 1 * List.length z.2.2.1 ≤ 1073741824 := by omega
  have b4 : n + 1 + 1 + 1 * List.length z.2.2.1 + 1 ≤ 1073741824 := by omega
  have b5 : n + 1 + 1 + 1 * List.length z.2.2.1 + 1 + 1 ≤ 1073741824 := by omega
  have b6 : n + 1 + 1 + 1 * List.length z.2.2.1 + 1 + 1 + 1 ≤ 1073741824 := by omega
  have b7 : n + 1 + 1 + 1 * List.length z.2.2.1 + 1 + 1 + 1 + 1 ≤ 1073741824 := by omega
  have hw0 : W_iiLiEiiisLiE z = (List.length z.2.2.1 + wl W_i z.2.2.1) + ByteArray.size z.2.2.2.2.2.2.1 + (List.length z.2.2.2.2.2.2.2.1 + wl W_i z.2.2.2.2.2.2.2.1) := rfl
  obtain ⟨l2, e2, g2, _⟩ := mh_IntS z.2.2.1 (n + 1 + 1) (by omega) (by omega)
  obtain ⟨l7, e7, g7, _⟩ := mh_IntS z.2.2.2.2.2.2.2.1 (n + 1 + 1 + 1 * List.length z.2.2.1 + 1 + 1 + 1 + 1) (by omega) (by omega)
  refine ⟨(((n : Nat) : Int), ((n + 1 : Nat) : Int), l2, ((n + 1 + 1 + 1 * List.length z.2.2.1 : Nat) : Int), ((n + 1 + 1 + 1 * List.length z.2.2.1 + 1 : Nat) : Int), ((n + 1 + 1 + 1 * List.length z.2.2.1 + 1 + 1 : Nat) : Int), markOf (n + 1 + 1 + 1 * List.length z.2.2.1 + 1 + 1 + 1), l7, ()), ⟨rfl, rfl, g2, rfl, rfl, rfl, rfl, g7⟩, ?_⟩
  rw [← hm]
  simp only [laws_markEventS_r0, laws_markEventS_c0, lt_nat_true hk, zero_le_nat, cond_true, toNat_nat, List.length_set, blt_true hk, hz, List.getElem?_set_self hk, List.set_set, Option.bind_some, e2, e7, succ_w b0, succ_w b1, succ_w b3, succ_w b4, succ_w b5, succ_w b6, markOf_w b6, succ_wrap hk4]
theorem sh_EventS (l : List (Int × Int × (List (Int × Unit)) × Int × Int × Int × ByteArray × (List (Int × Unit)) × Unit)) (k : Nat) (z y : Int × Int × (List (Int × Unit)) × Int × Int × Int × ByteArray × (List (Int × Unit)) × Unit) (n : Nat) (hk : k < l.length) (hk4 : k < 4611686018427387904) (hy : l[k]? = some y) (hd : HD_EventS z n y) (hn : n + MN_iiLiEiiisLiE z ≤ 562036736) : laws_heldEventS_r0 (l, ((n : Nat) : Int), ((k : Nat) : Int), ()) = some (.inl (l, ((n + MN_iiLiEiiisLiE z : Nat) : Int), ((k + 1 : Nat) : Int), ())) := by
  have hm : n + 1 + 1 + 1 * List.length z.2.2.1 + 1 + 1 + 1 + 1 + 1 * List.length z.2.2.2.2.2.2.2.1 = n + MN_iiLiEiiisLiE z := by unfold MN_iiLiEiiisLiE; omega
  have b0 : n ≤ 1073741824 := by omega
  have b1 : n + 1 ≤ 1073741824 := by omega
  have b2 : n + 1 + 1 ≤ 1073741824 := by omega
  have b3 : n + 1 + 1 + 1 * List.length z.2.2.1 ≤ 1073741824 := by omega
  have b4 : n + 1 + 1 + 1 * List.length z.2.2.1 + 1 ≤ 1073741824 := by omega
  have b5 : n + 1 + 1 + 1 * List.length z.2.2.1 + 1 + 1 ≤ 1073741824 := by omega
  have b6 : n + 1 + 1 + 1 * List.length z.2.2.1 + 1 + 1 + 1 ≤ 1073741824 := by omega
  have b7 : n + 1 + 1 + 1 * List.length z.2.2.1 + 1 + 1 + 1 + 1 ≤ 1073741824 := by omega
  obtain ⟨h0, h1, h2, h3, h4, h5, h6, h7⟩ := hd
  rw [← hm]
  simp only [laws_heldEventS_r0, laws_heldEventS_c0, lt_nat_true hk, zero_le_nat, cond_true, cond_false, toNat_nat, hy, decide_true, strEq_self, beq_self_eq_true, Bool.not_true, Option.bind_some, h0, h1, h2, h3, h4, h5, h6, h7, succ_w b0, succ_w b1, succ_w b3, succ_w b4, succ_w b5, succ_w b6, markOf_w b6, nat_neg, succ_wrap hk4]
theorem mh_EventS (xs : List (Int × Int × (List (Int × Unit)) × Int × Int × Int × ByteArray × (List (Int × Unit)) × Unit)) (a : Nat) (h : List.length xs + wl W_iiLiEiiisLiE xs ≤ 4194304) (ha : a ≤ 536870912) : ∃ l, laws_markEventS xs ((a : Nat) : Int) = some (((a + wl MN_iiLiEiiisLiE xs : Nat) : Int), l, ()) ∧ laws_heldEventS l ((a : Nat) : Int) = some (((a + wl MN_iiLiEiiisLiE xs : Nat) : Int), ()) ∧ (List.length l = List.length xs ∧ wl MN_iiLiEiiisLiE xs ≤ 6 * (List.length xs + wl W_iiLiEiiisLiE xs)) := by
  have hm := mnl_iiLiEiiisLiE xs
  obtain ⟨l, h1, h2, h3⟩ := mark_loop MN_iiLiEiiisLiE HD_EventS laws_markEventS_r0 xs a (fun l m hl => by simp only [laws_markEventS_r0, laws_markEventS_c0, hl, lt_nat_irr, cond_false]) (fun l k hk n hl hz hn => st_EventS l k xs[k] n (by omega) (by omega) hz (Nat.le_trans (wl_mem W_iiLiEiiisLiE xs _ (List.getElem_mem hk)) (by omega)) (by omega))
  refine ⟨l, ?_, ?_, h2, hm⟩
  · unfold laws_markEventS
    rw [h1]
    rfl
  · have h4 := held_loop MN_iiLiEiiisLiE HD_EventS laws_heldEventS_r0 xs l a h2 h3 (fun m => by simp only [laws_heldEventS_r0, laws_heldEventS_c0, h2, lt_nat_irr, cond_false]) (fun k hk n y hk' hy hd hn => sh_EventS l k xs[k] y n hk' (by omega) hy hd (by omega))
    unfold laws_heldEventS
    rw [h4]
    rfl

/-! markDaemonS -/
/-- How many marks a row takes. -/
def MN_ibiiLiELiiisELiELsEiiiiiiiiiLiEiiiLiELiiiLiiisEELiiLiEiiisLiEE (x : Int × Bool × Int × Int × (List (Int × Unit)) × (List R_iiis) × (List (Int × Unit)) × (List (ByteArray × Unit)) × Int × Int × Int × Int × Int × Int × Int × Int × Int × (List (Int × Unit)) × Int × Int × Int × (List (Int × Unit)) × (List R_iiiLiiisE) × (List R_iiLiEiiisLiE) × Unit) : Nat := 1 + 1 + 1 + 1 + 1 * List.length x.2.2.2.2.1 + 4 * List.length x.2.2.2.2.2.1 + 1 * List.length x.2.2.2.2.2.2.1 + 1 * List.length x.2.2.2.2.2.2.2.1 + 1 + 1 + 1 + 1 + 1 + 1 + 1 + 1 + 1 + 1 * List.length x.2.2.2.2.2.2.2.2.2.2.2.2.2.2.2.2.2.1 + 1 + 1 + 1 + 1 * List.length x.2.2.2.2.2.2.2.2.2.2.2.2.2.2.2.2.2.2.2.2.2.1 + wl MN_iiiLiiisE x.2.2.2.2.2.2.2.2.2.2.2.2.2.2.2.2.2.2.2.2.2.2.1 + wl MN_iiLiEiiisLiE x.2.2.2.2.2.2.2.2.2.2.2.2.2.2.2.2.2.2.2.2.2.2.2.1
theorem mn_ibiiLiELiiisELiELsEiiiiiiiiiLiEiiiLiELiiiLiiisEELiiLiEiiisLiEE (x : Int × Bool × Int × Int × (List (Int × Unit)) × (List R_iiis) × (List (Int × Unit)) × (List (ByteArray × Unit)) × Int × Int × Int × Int × Int × Int × Int × Int × Int × (List (Int × Unit)) × Int × Int × Int × (List (Int × Unit)) × (List R_iiiLiiisE) × (List R_iiLiEiiisLiE) × Unit) : MN_ibiiLiELiiisELiELsEiiiiiiiiiLiEiiiLiELiiiLiiisEELiiLiEiiisLiEE x ≤ 16 * (1 + W_ibiiLiELiiisELiELsEiiiiiiiiiLiEiiiLiELiiiLiiisEELiiLiEiiisLiEE x) := by
  have h22 : wl MN_iiiLiiisE x.2.2.2.2.2.2.2.2.2.2.2.2.2.2.2.2.2.2.2.2.2.2.1 ≤ 4 * (List.length x.2.2.2.2.2.2.2.2.2.2.2.2.2.2.2.2.2.2.2.2.2.2.1 + wl W_iiiLiiisE x.2.2.2.2.2.2.2.2.2.2.2.2.2.2.2.2.2.2.2.2.2.2.1) := mnl_iiiLiiisE x.2.2.2.2.2.2.2.2.2.2.2.2.2.2.2.2.2.2.2.2.2.2.1
  have h23 : wl MN_iiLiEiiisLiE x.2.2.2.2.2.2.2.2.2.2.2.2.2.2.2.2.2.2.2.2.2.2.2.1 ≤ 6 * (List.length x.2.2.2.2.2.2.2.2.2.2.2.2.2.2.2.2.2.2.2.2.2.2.2.1 + wl W_iiLiEiiisLiE x.2.2.2.2.2.2.2.2.2.2.2.2.2.2.2.2.2.2.2.2.2.2.2.1) := mnl_iiLiEiiisLiE x.2.2.2.2.2.2.2.2.2.2.2.2.2.2.2.2.2.2.2.2.2.2.2.1
  unfold MN_ibiiLiELiiisELiELsEiiiiiiiiiLiEiiiLiELiiiLiiisEELiiLiEiiisLiEE W_ibiiLiELiiisELiELsEiiiiiiiiiLiEiiiLiELiiiLiiisEELiiLiEiiisLiEE
  omega
theorem mnl_ibiiLiELiiisELiELsEiiiiiiiiiLiEiiiLiELiiiLiiisEELiiLiEiiisLiEE (xs : List (Int × Bool × Int × Int × (List (Int × Unit)) × (List R_iiis) × (List (Int × Unit)) × (List (ByteArray × Unit)) × Int × Int × Int × Int × Int × Int × Int × Int × Int × (List (Int × Unit)) × Int × Int × Int × (List (Int × Unit)) × (List R_iiiLiiisE) × (List R_iiLiEiiisLiE) × Unit)) : wl MN_ibiiLiELiiisELiELsEiiiiiiiiiLiEiiiLiELiiiLiiisEELiiLiEiiisLiEE xs ≤ 16 * (List.length xs + wl W_ibiiLiELiiisELiELsEiiiiiiiiiLiEiiiLiELiiiLiiisEELiiLiEiiisLiEE xs) := wl_scale _ _ 16 mn_ibiiLiELiiisELiELsEiiiiiiiiiLiEiiiLiELiiiLiiisEELiiLiEiiisLiEE xs
/-- A row that is marked from a number on. -/
def HD_DaemonS (x : Int × Bool × Int × Int × (List (Int × Unit)) × (List R_iiis) × (List (Int × Unit)) × (List (ByteArray × Unit)) × Int × Int × Int × Int × Int × Int × Int × Int × Int × (List (Int × Unit)) × Int × Int × Int × (List (Int × Unit)) × (List R_iiiLiiisE) × (List R_iiLiEiiisLiE) × Unit) (n : Nat) (y : Int × Bool × Int × Int × (List (Int × Unit)) × (List R_iiis) × (List (Int × Unit)) × (List (ByteArray × Unit)) × Int × Int × Int × Int × Int × Int × Int × Int × Int × (List (Int × Unit)) × Int × Int × Int × (List (Int × Unit)) × (List R_iiiLiiisE) × (List R_iiLiEiiisLiE) × Unit) : Prop := y.1 = ((n : Nat) : Int) ∧ y.2.1 = (decide (Int.tmod ((n + 1 : Nat) : Int) (3 : Int) = (0 : Int))) ∧ y.2.2.1 = ((n + 1 + 1 : Nat) : Int) ∧ y.2.2.2.1 = ((n + 1 + 1 + 1 : Nat) : Int) ∧ laws_heldIntS y.2.2.2.2.1 ((n + 1 + 1 + 1 + 1 : Nat) : Int) = some (((n + 1 + 1 + 1 + 1 + 1 * List.length x.2.2.2.2.1 : Nat) : Int), ()) ∧ laws_heldItemS y.2.2.2.2.2.1 ((n + 1 + 1 + 1 + 1 + 1 * List.length x.2.2.2.2.1 : Nat) : Int) = some (((n + 1 + 1 + 1 + 1 + 1 * List.length x.2.2.2.2.1 + 4 * List.length x.2.2.2.2.2.1 : Nat) : Int), ()) ∧ laws_heldIntS y.2.2.2.2.2.2.1 ((n + 1 + 1 + 1 + 1 + 1 * List.length x.2.2.2.2.1 + 4 * List.length x.2.2.2.2.2.1 : Nat) : Int) = some (((n + 1 + 1 + 1 + 1 + 1 * List.length x.2.2.2.2.1 + 4 * List.length x.2.2.2.2.2.1 + 1 * List.length x.2.2.2.2.2.2.1 : Nat) : Int), ()) ∧ laws_heldStringS y.2.2.2.2.2.2.2.1 ((n + 1 + 1 + 1 + 1 + 1 * List.length x.2.2.2.2.1 + 4 * List.length x.2.2.2.2.2.1 + 1 * List.length x.2.2.2.2.2.2.1 : Nat) : Int) = some (((n + 1 + 1 + 1 + 1 + 1 * List.length x.2.2.2.2.1 + 4 * List.length x.2.2.2.2.2.1 + 1 * List.length x.2.2.2.2.2.2.1 + 1 * List.length x.2.2.2.2.2.2.2.1 : Nat) : Int), ()) ∧ y.2.2.2.2.2.2.2.2.1 = ((n + 1 + 1 + 1 + 1 + 1 * List.length x.2.2.2.2.1 + 4 * List.length x.2.2.2.2.2.1 + 1 * List.length x.2.2.2.2.2.2.1 + 1 * List.length x.2.2.2.2.2.2.2.1 : Nat) : Int) ∧ y.2.2.2.2.2.2.2.2.2.1 = ((n + 1 + 1 + 1 + 1 + 1 * List.length x.2.2.2.2.1 + 4 * List.length x.2.2.2.2.2.1 + 1 * List.length x.2.2.2.2.2.2.1 + 1 * List.length x.2.2.2.2.2.2.2.1 + 1 : Nat) : Int) ∧ y.2.2.2.2.2.2.2.2.2.2.1 = ((n + 1 + 1 + 1 + 1 + 1 * List.length x.2.2.2.2.1 + 4 * List.length x.2.2.2.2.2.1 + 1 * List.length x.2.2.2.2.2.2.1 + 1 * List.length x.2.2.2.2.2.2.2.1 + 1 + 1 : Nat) : Int) ∧ y.2.2.2.2.2.2.2.2.2.2.2.1 = ((n + 1 + 1 + 1 + 1 + 1 * List.length x.2.2.2.2.1 + 4 * List.length x.2.2.2.2.2.1 + 1 * List.length x.2.2.2.2.2.2.1 + 1 * List.length x.2.2.2.2.2.2.2.1 + 1 + 1 + 1 : Nat) : Int) ∧ y.2.2.2.2.2.2.2.2.2.2.2.2.1 = ((n + 1 + 1 + 1 + 1 + 1 * List.length x.2.2.2.2.1 + 4 * List.length x.2.2.2.2.2.1 + 1 * List.length x.2.2.2.2.2.2.1 + 1 * List.length x.2.2.2.2.2.2.2.1 + 1 + 1 + 1 + 1 : Nat) : Int) ∧ y.2.2.2.2.2.2.2.2.2.2.2.2.2.1 = ((n + 1 + 1 + 1 + 1 + 1 * List.length x.2.2.2.2.1 + 4 * List.length x.2.2.2.2.2.1 + 1 * List.length x.2.2.2.2.2.2.1 + 1 * List.length x.2.2.2.2.2.2.2.1 + 1 + 1 + 1 + 1 + 1 : Nat) : Int) ∧ y.2.2.2.2.2.2.2.2.2.2.2.2.2.2.1 = ((n + 1 + 1 + 1 + 1 + 1 * List.length x.2.2.2.2.1 + 4 * List.length x.2.2.2.2.2.1 + 1 * List.length x.2.2.2.2.2.2.1 + 1 * List.length x.2.2.2.2.2.2.2.1 + 1 + 1 + 1 + 1 + 1 + 1 : Nat) : Int) ∧ y.2.2.2.2.2.2.2.2.2.2.2.2.2.2.2.1 = ((n + 1 + 1 + 1 + 1 + 1 * List.length x.2.2.2.2.1 + 4 * List.length x.2.2.2.2.2.1 + 1 * List.length x.2.2.2.2.2.2.1 + 1 * List.length x.2.2.2.2.2.2.2.1 + 1 + 1 + 1 + 1 + 1 + 1 + 1 : Nat) : Int) ∧ y.2.2.2.2.2.2.2.2.2.2.2.2.2.2.2.2.1 = ((n + 1 + 1 + 1 + 1 + 1 * List.length x.2.2.2.2.1 + 4 * List.length x.2.2.2.2.2.1 + 1 * List.length x.2.2.2.2.2.2.1 + 1 * List.length x.2.2.2.2.2.2.2.1 + 1 + 1 + 1 + 1 + 1 + 1 + 1 + 1 : Nat) : Int) ∧ laws_heldIntS y.2.2.2.2.2.2.2.2.2.2.2.2.2.2.2.2.2.1 ((n + 1 + 1 + 1 + 1 + 1 * List.length x.2.2.2.2.1 + 4 * List.length x.2.2.2.2.2.1 + 1 * List.length x.2.2.2.2.2.2.1 + 1 * List.length x.2.2.2.2.2.2.2.1 + 1 + 1 + 1 + 1 + 1 + 1 + 1 + 1 + 1 : Nat) : Int) = some (((n + 1 + 1 + 1 + 1 + 1 * List.length x.2.2.2.2.1 + 4 * List.length x.2.2.2.2.2.1 + 1 * List.length x.2.2.2.2.2.2.1 + 1 * List.length x.2.2.2.2.2.2.2.1 + 1 + 1 + 1 + 1 + 1 + 1 + 1 + 1 + 1 + 1 * List.length x.2.2.2.2.2.2.2.2.2.2.2.2.2.2.2.2.2.1 : Nat) : Int), ()) ∧ y.2.2.2.2.2.2.2.2.2.2.2.2.2.2.2.2.2.2.1 = ((n + 1 + 1 + 1 + 1 + 1 * List.length x.2.2.2.2.1 + 4 * List.length x.2.2.2.2.2.1 + 1 * List.length x.2.2.2.2.2.2.1 + 1 * List.length x.2.2.2.2.2.2.2.1 + 1 + 1 + 1 + 1 + 1 + 1 + 1 + 1 + 1 + 1 * List.length x.2.2.2.2.2.2.2.2.2.2.2.2.2.2.2.2.2.1 : Nat) : Int) ∧ y.2.2.2.2.2.2.2.2.2.2.2.2.2.2.2.2.2.2.2.1 = ((n + 1 + 1 + 1 + 1 + 1 * List.length x.2.2.2.2.1 + 4 * List.length x.2.2.2.2.2.1 + 1 * List.length x.2.2.2.2.2.2.1 + 1 * List.length x.2.2.2.2.2.2.2.1 + 1 + 1 + 1 + 1 + 1 + 1 + 1 + 1 + 1 + 1 * List.length x.2.2.2.2.2.2.2.2.2.2.2.2.2.2.2.2.2.1 + 1 : Nat) : Int) ∧ y.2.2.2.2.2.2.2.2.2.2.2.2.2.2.2.2.2.2.2.2.1 = ((n + 1 + 1 + 1 + 1 + 1 * List.length x.2.2.2.2.1 + 4 * List.length x.2.2.2.2.2.1 + 1 * List.length x.2.2.2.2.2.2.1 + 1 * List.length x.2.2.2.2.2.2.2.1 + 1 + 1 + 1 + 1 + 1 + 1 + 1 + 1 + 1 + 1 * List.length x.2.2.2.2.2.2.2.2.2.2.2.2.2.2.2.2.2.1 + 1 + 1 : Nat) : Int) ∧ laws_heldIntS y.2.2.2.2.2.2.2.2.2.2.2.2.2.2.2.2.2.2.2.2.2.1 ((n + 1 + 1 + 1 + 1 + 1 * List.length x.2.2.2.2.1 + 4 * List.length x.2.2.2.2.2.1 + 1 * List.length x.2.2.2.2.2.2.1 + 1 * List.length x.2.2.2.2.2.2.2.1 + 1 + 1 + 1 + 1 + 1 + 1 + 1 + 1 + 1 + 1 * List.length x.2.2.2.2.2.2.2.2.2.2.2.2.2.2.2.2.2.1 + 1 + 1 + 1 : Nat) : Int) = some (((n + 1 + 1 + 1 + 1 + 1 * List.length x.2.2.2.2.1 + 4 * List.length x.2.2.2.2.2.1 + 1 * List.length x.2.2.2.2.2.2.1 + 1 * List.length x.2.2.2.2.2.2.2.1 + 1 + 1 + 1 + 1 + 1 + 1 + 1 + 1 + 1 + 1 * List.length x.2.2.2.2.2.2.2.2.2.2.2.2.2.2.2.2.2.1 + 1 + 1 + 1 + 1 * List.length x.2.2.2.2.2.2.2.2.2.2.2.2.2.2.2.2.2.2.2.2.2.1 : Nat) : Int), ()) ∧ laws_heldBundleS y.2.2.2.2.2.2.2.2.2.2.2.2.2.2.2.2.2.2.2.2.2.2.1 ((n + 1 + 1 + 1 + 1 + 1 * List.length x.2.2.2.2.1 + 4 * List.length x.2.2.2.2.2.1 + 1 * List.length x.2.2.2.2.2.2.1 + 1 * List.length x.2.2.2.2.2.2.2.1 + 1 + 1 + 1 + 1 + 1 + 1 + 1 + 1 + 1 + 1 * List.length x.2.2.2.2.2.2.2.2.2.2.2.2.2.2.2.2.2.1 + 1 + 1 + 1 + 1 * List.length x.2.2.2.2.2.2.2.2.2.2.2.2.2.2.2.2.2.2.2.2.2.1 : Nat) : Int) = some (((n + 1 + 1 + 1 + 1 + 1 * List.length x.2.2.2.2.1 + 4 * List.length x.2.2.2.2.2.1 + 1 * List.length x.2.2.2.2.2.2.1 + 1 * List.length x.2.2.2.2.2.2.2.1 + 1 + 1 + 1 + 1 + 1 + 1 + 1 + 1 + 1 + 1 * List.length x.2.2.2.2.2.2.2.2.2.2.2.2.2.2.2.2.2.1 + 1 + 1 + 1 + 1 * List.length x.2.2.2.2.2.2.2.2.2.2.2.2.2.2.2.2.2.2.2.2.2.1 + wl MN_iiiLiiisE x.2.2.2.2.2.2.2.2.2.2.2.2.2.2.2.2.2.2.2.2.2.2.1 : Nat) : Int), ()) ∧ laws_heldEventS y.2.2.2.2.2.2.2.2.2.2.2.2.2.2.2.2.2.2.2.2.2.2.2.1 ((n + 1 + 1 + 1 + 1 + 1 * List.length x.2.2.2.2.1 + 4 * List.length x.2.2.2.2.2.1 + 1 * List.length x.2.2.2.2.2.2.1 + 1 * List.length x.2.2.2.2.2.2.2.1 + 1 + 1 + 1 + 1 + 1 + 1 + 1 + 1 + 1 + 1 * List.length x.2.2.2.2.2.2.2.2.2.2.2.2.2.2.2.2.2.1 + 1 + 1 + 1 + 1 * List.length x.2.2.2.2.2.2.2.2.2.2.2.2.2.2.2.2.2.2.2.2.2.1 + wl MN_iiiLiiisE x.2.2.2.2.2.2.2.2.2.2.2.2.2.2.2.2.2.2.2.2.2.2.1 : Nat) : Int) = some (((n + 1 + 1 + 1 + 1 + 1 * List.length x.2.2.2.2.1 + 4 * List.length x.2.2.2.2.2.1 + 1 * List.length x.2.2.2.2.2.2.1 + 1 * List.length x.2.2.2.2.2.2.2.1 + 1 + 1 + 1 + 1 + 1 + 1 + 1 + 1 + 1 + 1 * List.length x.2.2.2.2.2.2.2.2.2.2.2.2.2.2.2.2.2.1 + 1 + 1 + 1 + 1 * List.length x.2.2.2.2.2.2.2.2.2.2.2.2.2.2.2.2.2.2.2.2.2.1 + wl MN_iiiLiiisE x.2.2.2.2.2.2.2.2.2.2.2.2.2.2.2.2.2.2.2.2.2.2.1 + wl MN_iiLiEiiisLiE x.2.2.2.2.2.2.2.2.2.2.2.2.2.2.2.2.2.2.2.2.2.2.2.1 : Nat) : Int), ())
set_option maxHeartbeats 4000000 in
theorem st_DaemonS (l : List (Int × Bool × Int × Int × (List (Int × Unit)) × (List R_iiis) × (List (Int × Unit)) × (List (ByteArray × Unit)) × Int × Int × Int × Int × Int × Int × Int × Int × Int × (List (Int × Unit)) × Int × Int × Int × (List (Int × Unit)) × (List R_iiiLiiisE) × (List R_iiLiEiiisLiE) × Unit)) (k : Nat) (z : Int × Bool × Int × Int × (List (Int × Unit)) × (List R_iiis) × (List (Int × Unit)) × (List (ByteArray × Unit)) × Int × Int × Int × Int × Int × Int × Int × Int × Int × (List (Int × Unit)) × Int × Int × Int × (List (Int × Unit)) × (List R_iiiLiiisE) × (List R_iiLiEiiisLiE) × Unit) (n : Nat) (hk : k < l.length) (hk4 : k < 4611686018427387904) (hz : l[k]? = some z) (hw : W_ibiiLiELiiisELiELsEiiiiiiiiiLiEiiiLiELiiiLiiisEELiiLiEiiisLiEE z ≤ 4194304) (hn : n + MN_ibiiLiELiiisELiELsEiiiiiiiiiLiEiiiLiELiiiLiiisEELiiLiEiiisLiEE z ≤ 335544320) : ∃ y, HD_DaemonS z n y ∧ laws_markDaemonS_r0 (l, ((n : Nat) : Int), ((k : Nat) : Int), ()) = some (.inl (l.set k y, ((n + MN_ibiiLiELiiisELiELsEiiiiiiiiiLiEiiiLiELiiiLiiisEELiiLiEiiisLiEE z : Nat) : Int), ((k + 1 : Nat) : Int), ())) := by
  have hm : n + 1 + 1 + 1 + 1 + 1 * List.length z.2.2.2.2.1 + 4 * List.length z.2.2.2.2.2.1 + 1 * List.length z.2.2.2.2.2.2.1 + 1 * List.length z.2.2.2.2.2.2.2.1 + 1 + 1 + 1 + 1 + 1 + 1 + 1 + 1 + 1 + 1 * List.length z.2.2.2.2.2.2.2.2.2.2.2.2.2.2.2.2.2.1 + 1 + 1 + 1 + 1 * List.length z.2.2.2.2.2.2.2.2.2.2.2.2.2.2.2.2.2.2.2.2.2.1 + wl MN_iiiLiiisE z.2.2.2.2.2.2.2.2.2.2.2.2.2.2.2.2.2.2.2.2.2.2.1 + wl MN_iiLiEiiisLiE z.2.2.2.2.2.2.2.2.2.2.2.2.2.2.2.2.2.2.2.2.2.2.2.1 = n + MN_ibiiLiELiiisELiELsEiiiiiiiiiLiEiiiLiELiiiLiiisEELiiLiEiiisLiEE z := by unfold MN_ibiiLiELiiisELiELsEiiiiiiiiiLiEiiiLiELiiiLiiisEELiiLiEiiisLiEE; omega
  have b0 : n ≤ 1073741824 := by omega
  have b1 : n + 1 ≤ 1073741824 := by omega
  have b2 : n + 1 + 1 ≤ 1073741824 := by omega
  have b3 : n + 1 + 1 + 1 ≤ 1073741824 := by omega
  have b4 : n + 1 + 1 + 1 + 1 ≤ 1073741824 := by omega
  have b5 : n + 1 + 1 + 1 + 1 + 1 * List.length z.2.2.2.2.1 ≤ 1073741824 := by omega
  have b6 : n + 1 + 1 + 1 + 1 + 1 * List.length z.2.2.2.2.1 + 4 * List.length z.2.2.2.2.2.1 ≤ 1073741824 := by omega
  have b7 : n + 1 + 1 + 1 + 1 + 1 * List.length z.2.2.2.2.1 + 4 * List.length z.2.2.2.2.2.1 + 1 * List.length z.2.2.2.2.2.2.1 ≤ 1073741824 := by omega
  have b8 : n + 1 + 1 + 1 + 1 + 1 * List.length z.2.2.2.2.1 + 4 * List.length z.2.2.2.2.2.1 + 1 * List.length z.2.2.2.2.2.2.1 + 1 * List.length z.2.2.2.2.2.2.2.1 ≤ 1073741824 := by omega
  have b9 : n + 1 + 1 + 1 + 1 + 1 * List.length z.2.2.2.2.1 + 4 * List.length z.2.2.2.2.2.1 + 1 * List.length z.2.2.2.2.2.2.1 + 1 * List.length z.2.2.2.2.2.2.2.1 + 1 ≤ 1073741824 := by omega
  have b10 : n + 1 + 1 + 1 + 1 + 1 * List.length z.2.2.2.2.1 + 4 * List.length z.2.2.2.2.2.1 + 1 * List.length z.2.2.2.2.2.2.1 + 1 * List.length z.2.2.2.2.2.2.2.1 + 1 + 1 ≤ 1073741824 := by omega
  have b11 : n + 1 + 1 + 1 + 1 + 1 * List.length z.2.2.2.2.1 + 4 * List.length z.2.2.2.2.2.1 + 1 * List.length z.2.2.2.2.2.2.1 + 1 * List.length z.2.2.2.2.2.2.2.1 + 1 + 1 + 1 ≤ 1073741824 := by omega
  have b12 : n + 1 + 1 + 1 + 1 + 1 * List.length z.2.2.2.2.1 + 4 * List.length z.2.2.2.2.2.1 + 1 * List.length z.2.2.2.2.2.2.1 + 1 * List.length z.2.2.2.2.2.2.2.1 + 1 + 1 + 1 + 1 ≤ 1073741824 := by omega
  have b13 : n + 1 + 1 + 1 + 1 + 1 * List.length z.2.2.2.2.1 + 4 * List.length z.2.2.2.2.2.1 + 1 * List.length z.2.2.2.2.2.2.1 + 1 * List.length z.2.2.2.2.2.2.2.1 + 1 + 1 + 1 + 1 + 1 ≤ 1073741824 := by omega
  have b14 : n + 1 + 1 + 1 + 1 + 1 * List.length z.2.2.2.2.1 + 4 * List.length z.2.2.2.2.2.1 + 1 * List.length z.2.2.2.2.2.2.1 + 1 * List.length z.2.2.2.2.2.2.2.1 + 1 + 1 + 1 + 1 + 1 + 1 ≤ 1073741824 := by omega
  have b15 : n + 1 + 1 + 1 + 1 + 1 * List.length z.2.2.2.2.1 + 4 * List.length z.2.2.2.2.2.1 + 1 * List.length z.2.2.2.2.2.2.1 + 1 * List.length z.2.2.2.2.2.2.2.1 + 1 + 1 + 1 + 1 + 1 + 1 + 1 ≤ 1073741824 := by omega
  have b16 : n + 1 + 1 + 1 + 1 + 1 * List.length z.2.2.2.2.1 + 4 * List.length z.2.2.2.2.2.1 + 1 * List.length z.2.2.2.2.2.2.1 + 1 * List.length z.2.2.2.2.2.2.2.1 + 1 + 1 + 1 + 1 + 1 + 1 + 1 + 1 ≤ 1073741824 := by omega
  have b17 : n + 1 + 1 + 1 + 1 + 1 * List.length z.2.2.2.2.1 + 4 * List.length z.2.2.2.2.2.1 + 1 * List.length z.2.2.2.2.2.2.1 + 1 * List.length z.2.2.2.2.2.2.2.1 + 1 + 1 + 1 + 1 + 1 + 1 + 1 + 1 + 1 ≤ 1073741824 := by omega
  have b18 : n + 1 + 1 + 1 + 1 + 1 * List.length z.2.2.2.2.1 + 4 * List.length z.2.2.2.2.2.1 + 1 * List.length z.2.2.2.2.2.2.1 + 1 * List.length z.2.2.2.2.2.2.2.1 + 1 + 1 + 1 + 1 + 1 + 1 + 1 + 1 + 1 + 1 * List.length z.2.2.2.2.2.2.2.2.2.2.2.2.2.2.2.2.2.1 ≤ 1073741824 := by omega
  have b19 : n + 1 + 1 + 1 + 1 + 1 * List.length z.2.2.2.2.1 + 4 * List.length z.2.2.2.2.2.1 + 1 * List.length z.2.2.2.2.2.2.1 + 1 * List.length z.2.2.2.2.2.2.2.1 + 1 + 1 + 1 + 1 + 1 + 1 + 1 + 1 + 1 + 1 * List.length z.2.2.2.2.2.2.2.2.2.2.2.2.2.2.2.2.2.1 + 1 ≤ 1073741824 := by omega
  have b20 : n + 1 + 1 + 1 + 1 + 1 * List.length z.2.2.2.2.1 + 4 * List.length z.2.2.2.2.2.1 + 1 * List.length z.2.2.2.2.2.2.1 + 1 * List.length z.2.2.2.2.2.2.2.1 + 1 + 1 + 1 + 1 + 1 + 1 + 1 + 1 + 1 + 1 * List.length z.2.2.2.2.2.2.2.2.2.2.2.2.2.2.2.2.2.1 + 1 + 1 ≤ 1073741824 := by omega
  have b21 : n + 1 + 1 + 1 + 1 + 1 * List.length z.2.2.2.2.1 + 4 * List.length z.2.2.2.2.2.1 + 1 * List.length z.2.2.2.2.2.2.1 + 1 * List.length z.2.2.2.2.2.2.2.1 + 1 + 1 + 1 + 1 + 1 + 1 + 1 + 1 + 1 + 1 * List.length z.2.2.2.2.2.2.2.2.2.2.2.2.2.2.2.2.2.1 + 1 + 1 + 1 ≤ 1073741824 := by omega
  have b22 : n + 1 + 1 + 1 + 1 + 1 * List.length z.2.2.2.2.1 + 4 * List.length z.2.2.2.2.2.1 + 1 * List.length z.2.2.2.2.2.2.1 + 1 * List.length z.2.2.2.2.2.2.2.1 + 1 + 1 + 1 + 1 + 1 + 1 + 1 + 1 + 1 + 1 * List.length z.2.2.2.2.2.2.2.2.2.2.2.2.2.2.2.2.2.1 + 1 + 1 + 1 + 1 * List.length z.2.2.2.2.2.2.2.2.2.2.2.2.2.2.2.2.2.2.2.2.2.1 ≤ 1073741824 := by omega
  have b23 : n + 1 + 1 + 1 + 1 + 1 * List.length z.2.2.2.2.1 + 4 * List.length z.2.2.2.2.2.1 + 1 * List.length z.2.2.2.2.2.2.1 + 1 * List.length z.2.2.2.2.2.2.2.1 + 1 + 1 + 1 + 1 + 1 + 1 + 1 + 1 + 1 + 1 * List.length z.2.2.2.2.2.2.2.2.2.2.2.2.2.2.2.2.2.1 + 1 + 1 + 1 + 1 * List.length z.2.2.2.2.2.2.2.2.2.2.2.2.2.2.2.2.2.2.2.2.2.1 + wl MN_iiiLiiisE z.2.2.2.2.2.2.2.2.2.2.2.2.2.2.2.2.2.2.2.2.2.2.1 ≤ 1073741824 := by omega
  have hw0 : W_ibiiLiELiiisELiELsEiiiiiiiiiLiEiiiLiELiiiLiiisEELiiLiEiiisLiEE z = (List.length z.2.2.2.2.1 + wl W_i z.2.2.2.2.1) + (List.length z.2.2.2.2.2.1 + wl W_iiis z.2.2.2.2.2.1) + (List.length z.2.2.2.2.2.2.1 + wl W_i z.2.2.2.2.2.2.1) + (List.length z.2.2.2.2.2.2.2.1 + wl W_s z.2.2.2.2.2.2.2.1) + (List.length z.2.2.2.2.2.2.2.2.2.2.2.2.2.2.2.2.2.1 + wl W_i z.2.2.2.2.2.2.2.2.2.2.2.2.2.2.2.2.2.1) + (List.length z.2.2.2.2.2.2.2.2.2.2.2.2.2.2.2.2.2.2.2.2.2.1 + wl W_i z.2.2.2.2.2.2.2.2.2.2.2.2.2.2.2.2.2.2.2.2.2.1) + (List.length z.2.2.2.2.2.2.2.2.2.2.2.2.2.2.2.2.2.2.2.2.2.2.1 + wl W_iiiLiiisE z.2.2.2.2.2.2.2.2.2.2.2.2.2.2.2.2.2.2.2.2.2.2.1) + (List.length z.2.2.2.2.2.2.2.2.2.2.2.2.2.2.2.2.2.2.2.2.2.2.2.1 + wl W_iiLiEiiisLiE z.2.2.2.2.2.2.2.2.2.2.2.2.2.2.2.2.2.2.2.2.2.2.2.1) := rfl
  obtain ⟨l4, e4, g4, _⟩ := mh_IntS z.2.2.2.2.1 (n + 1 + 1 + 1 + 1) (by omega) (by omega)
  obtain ⟨l5, e5, g5, _⟩ := mh_ItemS z.2.2.2.2.2.1 (n + 1 + 1 + 1 + 1 + 1 * List.length z.2.2.2.2.1) (by omega) (by omega)
  obtain ⟨l6, e6, g6, _⟩ := mh_IntS z.2.2.2.2.2.2.1 (n + 1 + 1 + 1 + 1 + 1 * List.length z.2.2.2.2.1 + 4 * List.length z.2.2.2.2.2.1) (by omega) (by omega)
  obtain ⟨l7, e7, g7, _⟩ := mh_StringS z.2.2.2.2.2.2.2.1 (n + 1 + 1 + 1 + 1 + 1 * List.length z.2.2.2.2.1 + 4 * List.length z.2.2.2.2.2.1 + 1 * List.length z.2.2.2.2.2.2.1) (by omega) (by omega)
  obtain ⟨l17, e17, g17, _⟩ := mh_IntS z.2.2.2.2.2.2.2.2.2.2.2.2.2.2.2.2.2.1 (n + 1 + 1 + 1 + 1 + 1 * List.length z.2.2.2.2.1 + 4 * List.length z.2.2.2.2.2.1 + 1 * List.length z.2.2.2.2.2.2.1 + 1 * List.length z.2.2.2.2.2.2.2.1 + 1 + 1 + 1 + 1 + 1 + 1 + 1 + 1 + 1) (by omega) (by omega)
  obtain ⟨l21, e21, g21, _⟩ := mh_IntS z.2.2.2.2.2.2.2.2.2.2.2.2.2.2.2.2.2.2.2.2.2.1 (n + 1 + 1 + 1 + 1 + 1 * List.length z.2.2.2.2.1 + 4 * List.length z.2.2.2.2.2.1 + 1 * List.length z.2.2.2.2.2.2.1 + 1 * List.length z.2.2.2.2.2.2.2.1 + 1 + 1 + 1 + 1 + 1 + 1 + 1 + 1 + 1 + 1 * List.length z.2.2.2.2.2.2.2.2.2.2.2.2.2.2.2.2.2.1 + 1 + 1 + 1) (by omega) (by omega)
  obtain ⟨l22, e22, g22, _⟩ := mh_BundleS z.2.2.2.2.2.2.2.2.2.2.2.2.2.2.2.2.2.2.2.2.2.2.1 (n + 1 + 1 + 1 + 1 + 1 * List.length z.2.2.2.2.1 + 4 * List.length z.2.2.2.2.2.1 + 1 * List.length z.2.2.2.2.2.2.1 + 1 * List.length z.2.2.2.2.2.2.2.1 + 1 + 1 + 1 + 1 + 1 + 1 + 1 + 1 + 1 + 1 * List.length z.2.2.2.2.2.2.2.2.2.2.2.2.2.2.2.2.2.1 + 1 + 1 + 1 + 1 * List.length z.2.2.2.2.2.2.2.2.2.2.2.2.2.2.2.2.2.2.2.2.2.1) (by omega) (by omega)
  obtain ⟨l23, e23, g23, _⟩ := mh_EventS z.2.2.2.2.2.2.2.2.2.2.2.2.2.2.2.2.2.2.2.2.2.2.2.1 (n + 1 + 1 + 1 + 1 + 1 * List.length z.2.2.2.2.1 + 4 * List.length z.2.2.2.2.2.1 + 1 * List.length z.2.2.2.2.2.2.1 + 1 * List.length z.2.2.2.2.2.2.2.1 + 1 + 1 + 1 + 1 + 1 + 1 + 1 + 1 + 1 + 1 * List.length z.2.2.2.2.2.2.2.2.2.2.2.2.2.2.2.2.2.1 + 1 + 1 + 1 + 1 * List.length z.2.2.2.2.2.2.2.2.2.2.2.2.2.2.2.2.2.2.2.2.2.1 + wl MN_iiiLiiisE z.2.2.2.2.2.2.2.2.2.2.2.2.2.2.2.2.2.2.2.2.2.2.1) (by omega) (by omega)
  refine ⟨(((n : Nat) : Int), (decide (Int.tmod ((n + 1 : Nat) : Int) (3 : Int) = (0 : Int))), ((n + 1 + 1 : Nat) : Int), ((n + 1 + 1 + 1 : Nat) : Int), l4, l5, l6, l7, ((n + 1 + 1 + 1 + 1 + 1 * List.length z.2.2.2.2.1 + 4 * List.length z.2.2.2.2.2.1 + 1 * List.length z.2.2.2.2.2.2.1 + 1 * List.length z.2.2.2.2.2.2.2.1 : Nat) : Int), ((n + 1 + 1 + 1 + 1 + 1 * List.length z.2.2.2.2.1 + 4 * List.length z.2.2.2.2.2.1 + 1 * List.length z.2.2.2.2.2.2.1 + 1 * List.length z.2.2.2.2.2.2.2.1 + 1 : Nat) : Int), ((n + 1 + 1 + 1 + 1 + 1 * List.length z.2.2.2.2.1 + 4 * List.length z.2.2.2.2.2.1 + 1 * List.length z.2.2.2.2.2.2.1 + 1 * List.length z.2.2.2.2.2.2.2.1 + 1 + 1 : Nat) : Int), ((n + 1 + 1 + 1 + 1 + 1 * List.length z.2.2.2.2.1 + 4 * List.length z.2.2.2.2.2.1 + 1 * List.length z.2.2.2.2.2.2.1 + 1 * List.length z.2.2.2.2.2.2.2.1 + 1 + 1 + 1 : Nat) : Int), ((n + 1 + 1 + 1 + 1 + 1 * List.length z.2.2.2.2.1 + 4 * List.length z.2.2.2.2.2.1 + 1 * List.length z.2.2.2.2.2.2.1 + 1 * List.length z.2.2.2.2.2.2.2.1 + 1 + 1 + 1 + 1 : Nat) : Int), ((n + 1 + 1 + 1 + 1 + 1 * List.length z.2.2.2.2.1 + 4 * List.length z.2.2.2.2.2.1 + 1 * List.length z.2.2.2.2.2.2.1 + 1 * List.length z.2.2.2.2.2.2.2.1 + 1 + 1 + 1 + 1 + 1 : Nat) : Int), ((n + 1 + 1 + 1 + 1 + 1 * List.length z.2.2.2.2.1 + 4 * List.length z.2.2.2.2.2.1 + 1 * List.length z.2.2.2.2.2.2.1 + 1 * List.length z.2.2.2.2.2.2.2.1 + 1 + 1 + 1 + 1 + 1 + 1 : Nat) : Int), ((n + 1 + 1 + 1 + 1 + 1 * List.length z.2.2.2.2.1 + 4 * List.length z.2.2.2.2.2.1 + 1 * List.length z.2.2.2.2.2.2.1 + 1 * List.length z.2.2.2.2.2.2.2.1 + 1 + 1 + 1 + 1 + 1 + 1 + 1 : Nat) : Int), ((n + 1 + 1 + 1 + 1 + 1 * List.length z.2.2.2.2.1 + 4 * List.length z.2.2.2.2.2.1 + 1 * List.length z.2.2.2.2.2.2.1 + 1 * List.length z.2.2.2.2.2.2.2.1 + 1 + 1 + 1 + 1 + 1 + 1 + 1 + 1 : Nat) : Int), l17, ((n + 1 + 1 + 1 + 1 + 1 * List.length z.2.2.2.2.1 + 4 * List.length z.2.2.2.2.2.1 + 1 * List.length z.2.2.2.2.2.2.1 + 1 * List.length z.2.2.2.2.2.2.2.1 + 1 + 1 + 1 + 1 + 1 + 1 + 1 + 1 + 1 + 1 * List.length z.2.2.2.2.2.2.2.2.2.2.2.2.2.2.2.2.2.1 : Nat) : Int), ((n + 1 + 1 + 1 + 1 + 1 * List.length z.2.2.2.2.1 + 4 * List.length z.2.2.2.2.2.1 + 1 * List.length z.2.2.2.2.2.2.1 + 1 * List.length z.2.2.2.2.2.2.2.1 + 1 + 1 + 1 + 1 + 1 + 1 + 1 + 1 + 1 + 1 * List.length z.2.2.2.2.2.2.2.2.2.2.2.2.2.2.2.2.2.1 + 1 : Nat) : Int), ((n + 1 + 1 + 1 + 1 + 1 * List.length z.2.2.2.2.1 + 4 * List.length z.2.2.2.2.2.1 + 1 * List.length z.2.2.2.2.2.2.1 + 1 * List.length z.2.2.2.2.2.2.2.1 + 1 + 1 + 1 + 1 + 1 + 1 + 1 + 1 + 1 + 1 * List.length z.2.2.2.2.2.2.2.2.2.2.2.2.2.2.2.2.2.1 + 1 + 1 : Nat) : Int), l21, l22, l23, ()), ⟨rfl, rfl, rfl, rfl, g4, g5, g6, g7, rfl, rfl, rfl, rfl, rfl, rfl, rfl, rfl, rfl, g17, rfl, rfl, rfl, g21, g22, g23⟩, ?_⟩
  rw [← hm]
  simp only [laws_markDaemonS_r0, laws_markDaemonS_c0, lt_nat_true hk, zero_le_nat, cond_true, toNat_nat, List.length_set, blt_true hk, hz, List.getElem?_set_self hk, List.set_set, Option.bind_some, e4, e5, e6, e7, e17, e21, e22, e23, succ_w b0, succ_w b1, succ_w b2, succ_w b3, succ_w b8, succ_w b9, succ_w b10, succ_w b11, succ_w b12, succ_w b13, succ_w b14, succ_w b15, succ_w b16, succ_w b18, succ_w b19, succ_w b20, succ_wrap hk4]
set_option maxHeartbeats 4000000 in
theorem sh_DaemonS (l : List (Int × Bool × Int × Int × (List (Int × Unit)) × (List R_iiis) × (List (Int × Unit)) × (List (ByteArray × Unit)) × Int × Int × Int × Int × Int × Int × Int × Int × Int × (List (Int × Unit)) × Int × Int × Int × (List (Int × Unit)) × (List R_iiiLiiisE) × (List R_iiLiEiiisLiE) × Unit)) (k : Nat) (z y : Int × Bool × Int × Int × (List (Int × Unit)) × (List R_iiis) × (List (Int × Unit)) × (List (ByteArray × Unit)) × Int × Int × Int × Int × Int × Int × Int × Int × Int × (List (Int × Unit)) × Int × Int × Int × (List (Int × Unit)) × (List R_iiiLiiisE) × (List R_iiLiEiiisLiE) × Unit) (n : Nat) (hk : k < l.length) (hk4 : k < 4611686018427387904) (hy : l[k]? = some y) (hd : HD_DaemonS z n y) (hn : n + MN_ibiiLiELiiisELiELsEiiiiiiiiiLiEiiiLiELiiiLiiisEELiiLiEiiisLiEE z ≤ 335544320) : laws_heldDaemonS_r0 (l, ((n : Nat) : Int), ((k : Nat) : Int), ()) = some (.inl (l, ((n + MN_ibiiLiELiiisELiELsEiiiiiiiiiLiEiiiLiELiiiLiiisEELiiLiEiiisLiEE z : Nat) : Int), ((k + 1 : Nat) : Int), ())) := by
  have hm : n + 1 + 1 + 1 + 1 + 1 * List.length z.2.2.2.2.1 + 4 * List.length z.2.2.2.2.2.1 + 1 * List.length z.2.2.2.2.2.2.1 + 1 * List.length z.2.2.2.2.2.2.2.1 + 1 + 1 + 1 + 1 + 1 + 1 + 1 + 1 + 1 + 1 * List.length z.2.2.2.2.2.2.2.2.2.2.2.2.2.2.2.2.2.1 + 1 + 1 + 1 + 1 * List.length z.2.2.2.2.2.2.2.2.2.2.2.2.2.2.2.2.2.2.2.2.2.1 + wl MN_iiiLiiisE z.2.2.2.2.2.2.2.2.2.2.2.2.2.2.2.2.2.2.2.2.2.2.1 + wl MN_iiLiEiiisLiE z.2.2.2.2.2.2.2.2.2.2.2.2.2.2.2.2.2.2.2.2.2.2.2.1 = n + MN_ibiiLiELiiisELiELsEiiiiiiiiiLiEiiiLiELiiiLiiisEELiiLiEiiisLiEE z := by unfold MN_ibiiLiELiiisELiELsEiiiiiiiiiLiEiiiLiELiiiLiiisEELiiLiEiiisLiEE; omega
  have b0 : n ≤ 1073741824 := by omega
  have b1 : n + 1 ≤ 1073741824 := by omega
  have b2 : n + 1 + 1 ≤ 1073741824 := by omega
  have b3 : n + 1 + 1 + 1 ≤ 1073741824 := by omega
  have b4 : n + 1 + 1 + 1 + 1 ≤ 1073741824 := by omega
  have b5 : n + 1 + 1 + 1 + 1 + 1 * List.length z.2.2.2.2.1 ≤ 1073741824 := by omega
  have b6 : n + 1 + 1 + 1 + 1 + 1 * List.length z.2.2.2.2.1 + 4 * List.length z.2.2.2.2.2.1 ≤ 1073741824 := by omega
  have b7 : n + 1 + 1 + 1 + 1 + 1 * List.length z.2.2.2.2.1 + 4 * List.length z.2.2.2.2.2.1 + 1 * List.length z.2.2.2.2.2.2.1 ≤ 1073741824 := by omega
  have b8 : n + 1 + 1 + 1 + 1 + 1 * List.length z.2.2.2.2.1 + 4 * List.length z.2.2.2.2.2.1 + 1 * List.length z.2.2.2.2.2.2.1 + 1 * List.length z.2.2.2.2.2.2.2.1 ≤ 1073741824 := by omega
  have b9 : n + 1 + 1 + 1 + 1 + 1 * List.length z.2.2.2.2.1 + 4 * List.length z.2.2.2.2.2.1 + 1 * List.length z.2.2.2.2.2.2.1 + 1 * List.length z.2.2.2.2.2.2.2.1 + 1 ≤ 1073741824 := by omega
  have b10 : n + 1 + 1 + 1 + 1 + 1 * List.length z.2.2.2.2.1 + 4 * List.length z.2.2.2.2.2.1 + 1 * List.length z.2.2.2.2.2.2.1 + 1 * List.length z.2.2.2.2.2.2.2.1 + 1 + 1 ≤ 1073741824 := by omega
  have b11 : n + 1 + 1 + 1 + 1 + 1 * List.length z.2.2.2.2.1 + 4 * List.length z.2.2.2.2.2.1 + 1 * List.length z.2.2.2.2.2.2.1 + 1 * List.length z.2.2.2.2.2.2.2.1 + 1 + 1 + 1 ≤ 1073741824 := by omega
  have b12 : n + 1 + 1 + 1 + 1 + 1 * List.length z.2.2.2.2.1 + 4 * List.length z.2.2.2.2.2.1 + 1 * List.length z.2.2.2.2.2.2.1 + 1 * List.length z.2.2.2.2.2.2.2.1 + 1 + 1 + 1 + 1 ≤ 1073741824 := by omega
  have b13 : n + 1 + 1 + 1 + 1 + 1 * List.length z.2.2.2.2.1 + 4 * List.length z.2.2.2.2.2.1 + 1 * List.length z.2.2.2.2.2.2.1 + 1 * List.length z.2.2.2.2.2.2.2.1 + 1 + 1 + 1 + 1 + 1 ≤ 1073741824 := by omega
  have b14 : n + 1 + 1 + 1 + 1 + 1 * List.length z.2.2.2.2.1 + 4 * List.length z.2.2.2.2.2.1 + 1 * List.length z.2.2.2.2.2.2.1 + 1 * List.length z.2.2.2.2.2.2.2.1 + 1 + 1 + 1 + 1 + 1 + 1 ≤ 1073741824 := by omega
  have b15 : n + 1 + 1 + 1 + 1 + 1 * List.length z.2.2.2.2.1 + 4 * List.length z.2.2.2.2.2.1 + 1 * List.length z.2.2.2.2.2.2.1 + 1 * List.length z.2.2.2.2.2.2.2.1 + 1 + 1 + 1 + 1 + 1 + 1 + 1 ≤ 1073741824 := by omega
  have b16 : n + 1 + 1 + 1 + 1 + 1 * List.length z.2.2.2.2.1 + 4 * List.length z.2.2.2.2.2.1 + 1 * List.length z.2.2.2.2.2.2.1 + 1 * List.length z.2.2.2.2.2.2.2.1 + 1 + 1 + 1 + 1 + 1 + 1 + 1 + 1 ≤ 1073741824 := by omega
  have b17 : n + 1 + 1 + 1 + 1 + 1 * List.length z.2.2.2.2.1 + 4 * List.length z.2.2.2.2.2.1 + 1 * List.length z.2.2.2.2.2.2.1 + 1 * List.length z.2.2.2.2.2.2.2.1 + 1 + 1 + 1 + 1 + 1 + 1 + 1 + 1 + 1 ≤ 1073741824 := by omega
  have b18 : n + 1 + 1 + 1 + 1 + 1 * List.length z.2.2.2.2.1 + 4 * List.length z.2.2.2.2.2.1 + 1 * List.length z.2.2.2.2.2.2.1 + 1 * List.length z.2.2.2.2.2.2.2.1 + 1 + 1 + 1 + 1 + 1 + 1 + 1 + 1 + 1 + 1 * List.length z.2.2.2.2.2.2.2.2.2.2.2.2.2.2.2.2.2.1 ≤ 1073741824 := by omega
  have b19 : n + 1 + 1 + 1 + 1 + 1 * List.length z.2.2.2.2.1 + 4 * List.length z.2.2.2.2.2.1 + 1 * List.length z.2.2.2.2.2.2.1 + 1 * List.length z.2.2.2.2.2.2.2.1 + 1 + 1 + 1 + 1 + 1 + 1 + 1 + 1 + 1 + 1 * List.length z.2.2.2.2.2.2.2.2.2.2.2.2.2.2.2.2.2.1 + 1 ≤ 1073741824 := by omega
  have b20 : n + 1 + 1 + 1 + 1 + 1 * List.length z.2.2.2.2.1 + 4 * List.length z.2.2.2.2.2.1 + 1 * List.length z.2.2.2.2.2.2.1 + 1 * List.length z.2.2.2.2.2.2.2.1 + 1 + 1 + 1 + 1 + 1 + 1 + 1 + 1 + 1 + 1 * List.length z.2.2.2.2.2.2.2.2.2.2.2.2.2.2.2.2.2.1 + 1 + 1 ≤ 1073741824 := by omega
  have b21 : n + 1 + 1 + 1 + 1 + 1 * List.length z.2.2.2.2.1 + 4 * List.length z.2.2.2.2.2.1 + 1 * List.length z.2.2.2.2.2.2.1 + 1 * List.length z.2.2.2.2.2.2.2.1 + 1 + 1 + 1 + 1 + 1 + 1 + 1 + 1 + 1 + 1 * List.length z.2.2.2.2.2.2.2.2.2.2.2.2.2.2.2.2.2.1 + 1 + 1 + 1 ≤ 1073741824 := by omega
  have b22 : n + 1 + 1 + 1 + 1 + 1 * List.length z.2.2.2.2.1 + 4 * List.length z.2.2.2.2.2.1 + 1 * List.length z.2.2.2.2.2.2.1 + 1 * List.length z.2.2.2.2.2.2.2.1 + 1 + 1 + 1 + 1 + 1 + 1 + 1 + 1 + 1 + 1 * List.length z.2.2.2.2.2.2.2.2.2.2.2.2.2.2.2.2.2.1 + 1 + 1 + 1 + 1 * List.length z.2.2.2.2.2.2.2.2.2.2.2.2.2.2.2.2.2.2.2.2.2.1 ≤ 1073741824 := by omega
  have b23 : n + 1 + 1 + 1 + 1 + 1 * List.length z.2.2.2.2.1 + 4 * List.length z.2.2.2.2.2.1 + 1 * List.length z.2.2.2.2.2.2.1 + 1 * List.length z.2.2.2.2.2.2.2.1 + 1 + 1 + 1 + 1 + 1 + 1 + 1 + 1 + 1 + 1 * List.length z.2.2.2.2.2.2.2.2.2.2.2.2.2.2.2.2.2.1 + 1 + 1 + 1 + 1 * List.length z.2.2.2.2.2.2.2.2.2.2.2.2.2.2.2.2.2.2.2.2.2.1 + wl MN_iiiLiiisE z.2.2.2.2.2.2.2.2.2.2.2.2.2.2.2.2.2.2.2.2.2.2.1 ≤ 1073741824 := by omega
  obtain ⟨h0, h1, h2, h3, h4, h5, h6, h7, h8, h9, h10, h11, h12, h13, h14, h15, h16, h17, h18, h19, h20, h21, h22, h23⟩ := hd
  rw [← hm]
  simp only [laws_heldDaemonS_r0, laws_heldDaemonS_c0, lt_nat_true hk, zero_le_nat, cond_true, cond_false, toNat_nat, hy, decide_true, strEq_self, beq_self_eq_true, Bool.not_true, Option.bind_some, h0, h1, h2, h3, h4, h5, h6, h7, h8, h9, h10, h11, h12, h13, h14, h15, h16, h17, h18, h19, h20, h21, h22, h23, succ_w b0, succ_w b1, succ_w b2, succ_w b3, succ_w b8, succ_w b9, succ_w b10, succ_w b11, succ_w b12, succ_w b13, succ_w b14, succ_w b15, succ_w b16, succ_w b18, succ_w b19, succ_w b20, nat_neg, succ_wrap hk4]
theorem mh_DaemonS (xs : List (Int × Bool × Int × Int × (List (Int × Unit)) × (List R_iiis) × (List (Int × Unit)) × (List (ByteArray × Unit)) × Int × Int × Int × Int × Int × Int × Int × Int × Int × (List (Int × Unit)) × Int × Int × Int × (List (Int × Unit)) × (List R_iiiLiiisE) × (List R_iiLiEiiisLiE) × Unit)) (a : Nat) (h : List.length xs + wl W_ibiiLiELiiisELiELsEiiiiiiiiiLiEiiiLiELiiiLiiisEELiiLiEiiisLiEE xs ≤ 4194304) (ha : a ≤ 268435456) : ∃ l, laws_markDaemonS xs ((a : Nat) : Int) = some (((a + wl MN_ibiiLiELiiisELiELsEiiiiiiiiiLiEiiiLiELiiiLiiisEELiiLiEiiisLiEE xs : Nat) : Int), l, ()) ∧ laws_heldDaemonS l ((a : Nat) : Int) = some (((a + wl MN_ibiiLiELiiisELiELsEiiiiiiiiiLiEiiiLiELiiiLiiisEELiiLiEiiisLiEE xs : Nat) : Int), ()) ∧ (List.length l = List.length xs ∧ wl MN_ibiiLiELiiisELiELsEiiiiiiiiiLiEiiiLiELiiiLiiisEELiiLiEiiisLiEE xs ≤ 16 * (List.length xs + wl W_ibiiLiELiiisELiELsEiiiiiiiiiLiEiiiLiELiiiLiiisEELiiLiEiiisLiEE xs)) := by
  have hm := mnl_ibiiLiELiiisELiELsEiiiiiiiiiLiEiiiLiELiiiLiiisEELiiLiEiiisLiEE xs
  obtain ⟨l, h1, h2, h3⟩ := mark_loop MN_ibiiLiELiiisELiELsEiiiiiiiiiLiEiiiLiELiiiLiiisEELiiLiEiiisLiEE HD_DaemonS laws_markDaemonS_r0 xs a (fun l m hl => by simp only [laws_markDaemonS_r0, laws_markDaemonS_c0, hl, lt_nat_irr, cond_false]) (fun l k hk n hl hz hn => st_DaemonS l k xs[k] n (by omega) (by omega) hz (Nat.le_trans (wl_mem W_ibiiLiELiiisELiELsEiiiiiiiiiLiEiiiLiELiiiLiiisEELiiLiEiiisLiEE xs _ (List.getElem_mem hk)) (by omega)) (by omega))
  refine ⟨l, ?_, ?_, h2, hm⟩
  · unfold laws_markDaemonS
    rw [h1]
    rfl
  · have h4 := held_loop MN_ibiiLiELiiisELiELsEiiiiiiiiiLiEiiiLiELiiiLiiisEELiiLiEiiisLiEE HD_DaemonS laws_heldDaemonS_r0 xs l a h2 h3 (fun m => by simp only [laws_heldDaemonS_r0, laws_heldDaemonS_c0, h2, lt_nat_irr, cond_false]) (fun k hk n y hk' hy hd hn => sh_DaemonS l k xs[k] y n hk' (by omega) hy hd (by omega))
    unfold laws_heldDaemonS
    rw [h4]
    rfl

/-! markLetterS -/
/-- How many marks a row takes. -/
def MN_iiiiiisiiiiiLiEiiiLiiisE (x : Int × Int × Int × Int × Int × Int × ByteArray × Int × Int × Int × Int × Int × (List (Int × Unit)) × Int × Int × Int × (List R_iiis) × Unit) : Nat := 1 + 1 + 1 + 1 + 1 + 1 + 1 + 1 + 1 + 1 + 1 + 1 + 1 * List.length x.2.2.2.2.2.2.2.2.2.2.2.2.1 + 1 + 1 + 1 + 4 * List.length x.2.2.2.2.2.2.2.2.2.2.2.2.2.2.2.2.1
theorem mn_iiiiiisiiiiiLiEiiiLiiisE (x : Int × Int × Int × Int × Int × Int × ByteArray × Int × Int × Int × Int × Int × (List (Int × Unit)) × Int × Int × Int × (List R_iiis) × Unit) : MN_iiiiiisiiiiiLiEiiiLiiisE x ≤ 15 * (1 + W_iiiiiisiiiiiLiEiiiLiiisE x) := by
  unfold MN_iiiiiisiiiiiLiEiiiLiiisE W_iiiiiisiiiiiLiEiiiLiiisE
  omega
theorem mnl_iiiiiisiiiiiLiEiiiLiiisE (xs : List (Int × Int × Int × Int × Int × Int × ByteArray × Int × Int × Int × Int × Int × (List (Int × Unit)) × Int × Int × Int × (List R_iiis) × Unit)) : wl MN_iiiiiisiiiiiLiEiiiLiiisE xs ≤ 15 * (List.length xs + wl W_iiiiiisiiiiiLiEiiiLiiisE xs) := wl_scale _ _ 15 mn_iiiiiisiiiiiLiEiiiLiiisE xs
/-- A row that is marked from a number on. -/
def HD_LetterS (x : Int × Int × Int × Int × Int × Int × ByteArray × Int × Int × Int × Int × Int × (List (Int × Unit)) × Int × Int × Int × (List R_iiis) × Unit) (n : Nat) (y : Int × Int × Int × Int × Int × Int × ByteArray × Int × Int × Int × Int × Int × (List (Int × Unit)) × Int × Int × Int × (List R_iiis) × Unit) : Prop := y.1 = ((n : Nat) : Int) ∧ y.2.1 = ((n + 1 : Nat) : Int) ∧ y.2.2.1 = ((n + 1 + 1 : Nat) : Int) ∧ y.2.2.2.1 = ((n + 1 + 1 + 1 : Nat) : Int) ∧ y.2.2.2.2.1 = ((n + 1 + 1 + 1 + 1 : Nat) : Int) ∧ y.2.2.2.2.2.1 = ((n + 1 + 1 + 1 + 1 + 1 : Nat) : Int) ∧ y.2.2.2.2.2.2.1 = markOf (n + 1 + 1 + 1 + 1 + 1 + 1) ∧ y.2.2.2.2.2.2.2.1 = ((n + 1 + 1 + 1 + 1 + 1 + 1 + 1 : Nat) : Int) ∧ y.2.2.2.2.2.2.2.2.1 = ((n + 1 + 1 + 1 + 1 + 1 + 1 + 1 + 1 : Nat) : Int) ∧ y.2.2.2.2.2.2.2.2.2.1 = ((n + 1 + 1 + 1 + 1 + 1 + 1 + 1 + 1 + 1 : Nat) : Int) ∧ y.2.2.2.2.2.2.2.2.2.2.1 = ((n + 1 + 1 + 1 + 1 + 1 + 1 + 1 + 1 + 1 + 1 : Nat) : Int) ∧ y.2.2.2.2.2.2.2.2.2.2.2.1 = ((n + 1 + 1 + 1 + 1 + 1 + 1 + 1 + 1 + 1 + 1 + 1 : Nat) : Int) ∧ laws_heldIntS y.2.2.2.2.2.2.2.2.2.2.2.2.1 ((n + 1 + 1 + 1 + 1 + 1 + 1 + 1 + 1 + 1 + 1 + 1 + 1 : Nat) : Int) = some (((n + 1 + 1 + 1 + 1 + 1 + 1 + 1 + 1 + 1 + 1 + 1 + 1 + 1 * List.length x.2.2.2.2.2.2.2.2.2.2.2.2.1 : Nat) : Int), ()) ∧ y.2.2.2.2.2.2.2.2.2.2.2.2.2.1 = ((n + 1 + 1 + 1 + 1 + 1 + 1 + 1 + 1 + 1 + 1 + 1 + 1 + 1 * List.length x.2.2.2.2.2.2.2.2.2.2.2.2.1 : Nat) : Int) ∧ y.2.2.2.2.2.2.2.2.2.2.2.2.2.2.1 = ((n + 1 + 1 + 1 + 1 + 1 + 1 + 1 + 1 + 1 + 1 + 1 + 1 + 1 * List.length x.2.2.2.2.2.2.2.2.2.2.2.2.1 + 1 : Nat) : Int) ∧ y.2.2.2.2.2.2.2.2.2.2.2.2.2.2.2.1 = ((n + 1 + 1 + 1 + 1 + 1 + 1 + 1 + 1 + 1 + 1 + 1 + 1 + 1 * List.length x.2.2.2.2.2.2.2.2.2.2.2.2.1 + 1 + 1 : Nat) : Int) ∧ laws_heldItemS y.2.2.2.2.2.2.2.2.2.2.2.2.2.2.2.2.1 ((n + 1 + 1 + 1 + 1 + 1 + 1 + 1 + 1 + 1 + 1 + 1 + 1 + 1 * List.length x.2.2.2.2.2.2.2.2.2.2.2.2.1 + 1 + 1 + 1 : Nat) : Int) = some (((n + 1 + 1 + 1 + 1 + 1 + 1 + 1 + 1 + 1 + 1 + 1 + 1 + 1 * List.length x.2.2.2.2.2.2.2.2.2.2.2.2.1 + 1 + 1 + 1 + 4 * List.length x.2.2.2.2.2.2.2.2.2.2.2.2.2.2.2.2.1 : Nat) : Int), ())
set_option maxHeartbeats 4000000 in
theorem st_LetterS (l : List (Int × Int × Int × Int × Int × Int × ByteArray × Int × Int × Int × Int × Int × (List (Int × Unit)) × Int × Int × Int × (List R_iiis) × Unit)) (k : Nat) (z : Int × Int × Int × Int × Int × Int × ByteArray × Int × Int × Int × Int × Int × (List (Int × Unit)) × Int × Int × Int × (List R_iiis) × Unit) (n : Nat) (hk : k < l.length) (hk4 : k < 4611686018427387904) (hz : l[k]? = some z) (hw : W_iiiiiisiiiiiLiEiiiLiiisE z ≤ 4194304) (hn : n + MN_iiiiiisiiiiiLiEiiiLiiisE z ≤ 599785472) : ∃ y, HD_LetterS z n y ∧ laws_markLetterS_r0 (l, ((n : Nat) : Int), ((k : Nat) : Int), ()) = some (.inl (l.set k y, ((n + MN_iiiiiisiiiiiLiEiiiLiiisE z : Nat) : Int), ((k + 1 : Nat) : Int), ())) := by
  have hm : n + 1 + 1 + 1 + 1 + 1 + 1 + 1 + 1 + 1 + 1 + 1 + 1 + 1 * List.length z.2.2.2.2.2.2.2.2.2.2.2.2.1 + 1 + 1 + 1 + 4 * List.length z.2.2.2.2.2.2.2.2.2.2.2.2.2.2.2.2.1 = n + MN_iiiiiisiiiiiLiEiiiLiiisE z := by unfold MN_iiiiiisiiiiiLiEiiiLiiisE; omega
  have b0 : n ≤ 1073741824 := by omega
  have b1 : n + 1 ≤ 1073741824 := by omega
  have b2 : n + 1 + 1 ≤ 1073741824 := by omega
  have b3 : n + 1 + 1 + 1 ≤ 1073741824 := by omega
  have b4 : n + 1 + 1 + 1 + 1 ≤ 1073741824 := by omega
  have b5 : n + 1 + 1 + 1 + 1 + 1 ≤ 1073741824 := by omega
  have b6 : n + 1 + 1 + 1 + 1 + 1 + 1 ≤ 1073741824 := by omega
  have b7 : n + 1 + 1 + 1 + 1 + 1 + 1 + 1 ≤ 1073741824 := by omega
  have b8 : n + 1 + 1 + 1 + 1 + 1 + 1 + 1 + 1 ≤ 1073741824 := by omega
  have b9 : n + 1 + 1 + 1 + 1 + 1 + 1 + 1 + 1 + 1 ≤ 1073741824 := by omega
  have b10 : n + 1 + 1 + 1 + 1 + 1 + 1 + 1 + 1 + 1 + 1 ≤ 1073741824 := by omega
  have b11 : n + 1 + 1 + 1 + 1 + 1 + 1 + 1 + 1 + 1 + 1 + 1 ≤ 1073741824 := by omega
  have b12 : n + 1 + 1 + 1 + 1 + 1 + 1 + 1 + 1 + 1 + 1 + 1 + 1 ≤ 1073741824 := by omega
  have b13 : n + 1 + 1 + 1 + 1 + 1 + 1 + 1 + 1 + 1 + 1 + 1 + 1 + 1 * List.length z.2.2.2.2.2.2.2.2.2.2.2.2.1 ≤ 1073741824 := by omega
  have b14 : n + 1 + 1 + 1 + 1 + 1 + 1 + 1 + 1 + 1 + 1 + 1 + 1 + 1 * List.length z.2.2.2.2.2.2.2.2.2.2.2.2.1 + 1 ≤ 1073741824 := by omega
  have b15 : n + 1 + 1 + 1 + 1 + 1 + 1 + 1 + 1 + 1 + 1 + 1 + 1 + 1 * List.length z.2.2.2.2.2.2.2.2.2.2.2.2.1 + 1 + 1 ≤ 1073741824 := by omega
  have b16 : n + 1 + 1 + 1 + 1 + 1 + 1 + 1 + 1 + 1 + 1 + 1 + 1 + 1 * List.length z.2.2.2.2.2.2.2.2.2.2.2.2.1 + 1 + 1 + 1 ≤ 1073741824 := by omega
  have hw0 : W_iiiiiisiiiiiLiEiiiLiiisE z = ByteArray.size z.2.2.2.2.2.2.1 + (List.length z.2.2.2.2.2.2.2.2.2.2.2.2.1 + wl W_i z.2.2.2.2.2.2.2.2.2.2.2.2.1) + (List.length z.2.2.2.2.2.2.2.2.2.2.2.2.2.2.2.2.1 + wl W_iiis z.2.2.2.2.2.2.2.2.2.2.2.2.2.2.2.2.1) := rfl
  obtain ⟨l12, e12, g12, _⟩ := mh_IntS z.2.2.2.2.2.2.2.2.2.2.2.2.1 (n + 1 + 1 + 1 + 1 + 1 + 1 + 1 + 1 + 1 + 1 + 1 + 1) (by omega) (by omega)
  obtain ⟨l16, e16, g16, _⟩ := mh_ItemS z.2.2.2.2.2.2.2.2.2.2.2.2.2.2.2.2.1 (n + 1 + 1 + 1 + 1 + 1 + 1 + 1 + 1 + 1 + 1 + 1 + 1 + 1 * List.length z.2.2.2.2.2.2.2.2.2.2.2.2.1 + 1 + 1 + 1) (by omega) (by omega)
  refine ⟨(((n : Nat) : Int), ((n + 1 : Nat) : Int), ((n + 1 + 1 : Nat) : Int), ((n + 1 + 1 + 1 : Nat) : Int), ((n + 1 + 1 + 1 + 1 : Nat) : Int), ((n + 1 + 1 + 1 + 1 + 1 : Nat) : Int), markOf (n + 1 + 1 + 1 + 1 + 1 + 1), ((n + 1 + 1 + 1 + 1 + 1 + 1 + 1 : Nat) : Int), ((n + 1 + 1 + 1 + 1 + 1 + 1 + 1 + 1 : Nat) : Int), ((n + 1 + 1 + 1 + 1 + 1 + 1 + 1 + 1 + 1 : Nat) : Int), ((n + 1 + 1 + 1 + 1 + 1 + 1 + 1 + 1 + 1 + 1 : Nat) : Int), ((n + 1 + 1 + 1 + 1 + 1 + 1 + 1 + 1 + 1 + 1 + 1 : Nat) : Int), l12, ((n + 1 + 1 + 1 + 1 + 1 + 1 + 1 + 1 + 1 + 1 + 1 + 1 + 1 * List.length z.2.2.2.2.2.2.2.2.2.2.2.2.1 : Nat) : Int), ((n + 1 + 1 + 1 + 1 + 1 + 1 + 1 + 1 + 1 + 1 + 1 + 1 + 1 * List.length z.2.2.2.2.2.2.2.2.2.2.2.2.1 + 1 : Nat) : Int), ((n + 1 + 1 + 1 + 1 + 1 + 1 + 1 + 1 + 1 + 1 + 1 + 1 + 1 * List.length z.2.2.2.2.2.2.2.2.2.2.2.2.1 + 1 + 1 : Nat) : Int), l16, ()), ⟨rfl, rfl, rfl, rfl, rfl, rfl, rfl, rfl, rfl, rfl, rfl, rfl, g12, rfl, rfl, rfl, g16⟩, ?_⟩
  rw [← hm]
  simp only [laws_markLetterS_r0, laws_markLetterS_c0, lt_nat_true hk, zero_le_nat, cond_true, toNat_nat, List.length_set, blt_true hk, hz, List.getElem?_set_self hk, List.set_set, Option.bind_some, e12, e16, succ_w b0, succ_w b1, succ_w b2, succ_w b3, succ_w b4, succ_w b5, succ_w b6, markOf_w b6, succ_w b7, succ_w b8, succ_w b9, succ_w b10, succ_w b11, succ_w b13, succ_w b14, succ_w b15, succ_wrap hk4]
set_option maxHeartbeats 4000000 in
theorem sh_LetterS (l : List (Int × Int × Int × Int × Int × Int × ByteArray × Int × Int × Int × Int × Int × (List (Int × Unit)) × Int × Int × Int × (List R_iiis) × Unit)) (k : Nat) (z y : Int × Int × Int × Int × Int × Int × ByteArray × Int × Int × Int × Int × Int × (List (Int × Unit)) × Int × Int × Int × (List R_iiis) × Unit) (n : Nat) (hk : k < l.length) (hk4 : k < 4611686018427387904) (hy : l[k]? = some y) (hd : HD_LetterS z n y) (hn : n + MN_iiiiiisiiiiiLiEiiiLiiisE z ≤ 599785472) : laws_heldLetterS_r0 (l, ((n : Nat) : Int), ((k : Nat) : Int), ()) = some (.inl (l, ((n + MN_iiiiiisiiiiiLiEiiiLiiisE z : Nat) : Int), ((k + 1 : Nat) : Int), ())) := by
  have hm : n + 1 + 1 + 1 + 1 + 1 + 1 + 1 + 1 + 1 + 1 + 1 + 1 + 1 * List.length z.2.2.2.2.2.2.2.2.2.2.2.2.1 + 1 + 1 + 1 + 4 * List.length z.2.2.2.2.2.2.2.2.2.2.2.2.2.2.2.2.1 = n + MN_iiiiiisiiiiiLiEiiiLiiisE z := by unfold MN_iiiiiisiiiiiLiEiiiLiiisE; omega
  have b0 : n ≤ 1073741824 := by omega
  have b1 : n + 1 ≤ 1073741824 := by omega
  have b2 : n + 1 + 1 ≤ 1073741824 := by omega
  have b3 : n + 1 + 1 + 1 ≤ 1073741824 := by omega
  have b4 : n + 1 + 1 + 1 + 1 ≤ 1073741824 := by omega
  have b5 : n + 1 + 1 + 1 + 1 + 1 ≤ 1073741824 := by omega
  have b6 : n + 1 + 1 + 1 + 1 + 1 + 1 ≤ 1073741824 := by omega
  have b7 : n + 1 + 1 + 1 + 1 + 1 + 1 + 1 ≤ 1073741824 := by omega
  have b8 : n + 1 + 1 + 1 + 1 + 1 + 1 + 1 + 1 ≤ 1073741824 := by omega
  have b9 : n + 1 + 1 + 1 + 1 + 1 + 1 + 1 + 1 + 1 ≤ 1073741824 := by omega
  have b10 : n + 1 + 1 + 1 + 1 + 1 + 1 + 1 + 1 + 1 + 1 ≤ 1073741824 := by omega
  have b11 : n + 1 + 1 + 1 + 1 + 1 + 1 + 1 + 1 + 1 + 1 + 1 ≤ 1073741824 := by omega
  have b12 : n + 1 + 1 + 1 + 1 + 1 + 1 + 1 + 1 + 1 + 1 + 1 + 1 ≤ 1073741824 := by omega
  have b13 : n + 1 + 1 + 1 + 1 + 1 + 1 + 1 + 1 + 1 + 1 + 1 + 1 + 1 * List.length z.2.2.2.2.2.2.2.2.2.2.2.2.1 ≤ 1073741824 := by omega
  have b14 : n + 1 + 1 + 1 + 1 + 1 + 1 + 1 + 1 + 1 + 1 + 1 + 1 + 1 * List.length z.2.2.2.2.2.2.2.2.2.2.2.2.1 + 1 ≤ 1073741824 := by omega
  have b15 : n + 1 + 1 + 1 + 1 + 1 + 1 + 1 + 1 + 1 + 1 + 1 + 1 + 1 * List.length z.2.2.2.2.2.2.2.2.2.2.2.2.1 + 1 + 1 ≤ 1073741824 := by omega
  have b16 : n + 1 + 1 + 1 + 1 + 1 + 1 + 1 + 1 + 1 + 1 + 1 + 1 + 1 * List.length z.2.2.2.2.2.2.2.2.2.2.2.2.1 + 1 + 1 + 1 ≤ 1073741824 := by omega
  obtain ⟨h0, h1, h2, h3, h4, h5, h6, h7, h8, h9, h10, h11, h12, h13, h14, h15, h16⟩ := hd
  rw [← hm]
  simp only [laws_heldLetterS_r0, laws_heldLetterS_c0, lt_nat_true hk, zero_le_nat, cond_true, cond_false, toNat_nat, hy, decide_true, strEq_self, beq_self_eq_true, Bool.not_true, Option.bind_some, h0, h1, h2, h3, h4, h5, h6, h7, h8, h9, h10, h11, h12, h13, h14, h15, h16, succ_w b0, succ_w b1, succ_w b2, succ_w b3, succ_w b4, succ_w b5, succ_w b6, markOf_w b6, succ_w b7, succ_w b8, succ_w b9, succ_w b10, succ_w b11, succ_w b13, succ_w b14, succ_w b15, nat_neg, succ_wrap hk4]
theorem mh_LetterS (xs : List (Int × Int × Int × Int × Int × Int × ByteArray × Int × Int × Int × Int × Int × (List (Int × Unit)) × Int × Int × Int × (List R_iiis) × Unit)) (a : Nat) (h : List.length xs + wl W_iiiiiisiiiiiLiEiiiLiiisE xs ≤ 4194304) (ha : a ≤ 536870912) : ∃ l, laws_markLetterS xs ((a : Nat) : Int) = some (((a + wl MN_iiiiiisiiiiiLiEiiiLiiisE xs : Nat) : Int), l, ()) ∧ laws_heldLetterS l ((a : Nat) : Int) = some (((a + wl MN_iiiiiisiiiiiLiEiiiLiiisE xs : Nat) : Int), ()) ∧ (List.length l = List.length xs ∧ wl MN_iiiiiisiiiiiLiEiiiLiiisE xs ≤ 15 * (List.length xs + wl W_iiiiiisiiiiiLiEiiiLiiisE xs)) := by
  have hm := mnl_iiiiiisiiiiiLiEiiiLiiisE xs
  obtain ⟨l, h1, h2, h3⟩ := mark_loop MN_iiiiiisiiiiiLiEiiiLiiisE HD_LetterS laws_markLetterS_r0 xs a (fun l m hl => by simp only [laws_markLetterS_r0, laws_markLetterS_c0, hl, lt_nat_irr, cond_false]) (fun l k hk n hl hz hn => st_LetterS l k xs[k] n (by omega) (by omega) hz (Nat.le_trans (wl_mem W_iiiiiisiiiiiLiEiiiLiiisE xs _ (List.getElem_mem hk)) (by omega)) (by omega))
  refine ⟨l, ?_, ?_, h2, hm⟩
  · unfold laws_markLetterS
    rw [h1]
    rfl
  · have h4 := held_loop MN_iiiiiisiiiiiLiEiiiLiiisE HD_LetterS laws_heldLetterS_r0 xs l a h2 h3 (fun m => by simp only [laws_heldLetterS_r0, laws_heldLetterS_c0, h2, lt_nat_irr, cond_false]) (fun k hk n y hk' hy hd hn => sh_LetterS l k xs[k] y n hk' (by omega) hy hd (by omega))
    unfold laws_heldLetterS
    rw [h4]
    rfl

/-! markWorld -/
theorem mh_World (a0c0 : List R_iLiE) (a0c1 : List R_ibiiLiELiiisELiELsEiiiiiiiiiLiEiiiLiELiiiLiiisEELiiLiEiiisLiEE) (a0c2 : List R_iiiiiisiiiiiLiEiiiLiiisE) (a0c3 : List R_iiLiEiiisLiE) (a : Nat) (h0 : List.length a0c0 + wl W_iLiE a0c0 ≤ 4194304) (h1 : List.length a0c1 + wl W_ibiiLiELiiisELiELsEiiiiiiiiiLiEiiiLiELiiiLiiisEELiiLiEiiisLiEE a0c1 ≤ 4194304) (h2 : List.length a0c2 + wl W_iiiiiisiiiiiLiEiiiLiiisE a0c2 ≤ 4194304) (h3 : List.length a0c3 + wl W_iiLiEiiisLiE a0c3 ≤ 4194304) (ha : a ≤ 134217728) : ∃ l0 l1 l2 l3, laws_markWorld a0c0 a0c1 a0c2 a0c3 ((a : Nat) : Int) = some (((a + wl MN_iLiE a0c0 + wl MN_ibiiLiELiiisELiELsEiiiiiiiiiLiEiiiLiELiiiLiiisEELiiLiEiiisLiEE a0c1 + wl MN_iiiiiisiiiiiLiEiiiLiiisE a0c2 + wl MN_iiLiEiiisLiE a0c3 : Nat) : Int), l0, l1, l2, l3, ()) ∧ laws_heldWorld l0 l1 l2 l3 ((a : Nat) : Int) = some (((a + wl MN_iLiE a0c0 + wl MN_ibiiLiELiiisELiELsEiiiiiiiiiLiEiiiLiELiiiLiiisEELiiLiEiiisLiEE a0c1 + wl MN_iiiiiisiiiiiLiEiiiLiiisE a0c2 + wl MN_iiLiEiiisLiE a0c3 : Nat) : Int), ()) ∧ (List.length l0 = List.length a0c0 ∧ wl MN_iLiE a0c0 ≤ 1 * (List.length a0c0 + wl W_iLiE a0c0)) ∧ (List.length l1 = List.length a0c1 ∧ wl MN_ibiiLiELiiisELiELsEiiiiiiiiiLiEiiiLiELiiiLiiisEELiiLiEiiisLiEE a0c1 ≤ 16 * (List.length a0c1 + wl W_ibiiLiELiiisELiELsEiiiiiiiiiLiEiiiLiELiiiLiiisEELiiLiEiiisLiEE a0c1)) ∧ (List.length l2 = List.length a0c2 ∧ wl MN_iiiiiisiiiiiLiEiiiLiiisE a0c2 ≤ 15 * (List.length a0c2 + wl W_iiiiiisiiiiiLiEiiiLiiisE a0c2)) ∧ (List.length l3 = List.length a0c3 ∧ wl MN_iiLiEiiisLiE a0c3 ≤ 6 * (List.length a0c3 + wl W_iiLiEiiisLiE a0c3)) := by
  obtain ⟨l0, e0, g0, nl0⟩ := mh_RingS a0c0 (a) h0 (by omega)
  obtain ⟨l1, e1, g1, nl1⟩ := mh_DaemonS a0c1 (a + wl MN_iLiE a0c0) h1 (by omega)
  obtain ⟨l2, e2, g2, nl2⟩ := mh_LetterS a0c2 (a + wl MN_iLiE a0c0 + wl MN_ibiiLiELiiisELiELsEiiiiiiiiiLiEiiiLiELiiiLiiisEELiiLiEiiisLiEE a0c1) h2 (by omega)
  obtain ⟨l3, e3, g3, nl3⟩ := mh_EventS a0c3 (a + wl MN_iLiE a0c0 + wl MN_ibiiLiELiiisELiELsEiiiiiiiiiLiEiiiLiELiiiLiiisEELiiLiEiiisLiEE a0c1 + wl MN_iiiiiisiiiiiLiEiiiLiiisE a0c2) h3 (by omega)
  refine ⟨l0, l1, l2, l3, ?_, ?_, nl0, nl1, nl2, nl3⟩
  · simp only [laws_markWorld, e0, e1, e2, e3, Option.bind_some]
  · simp only [laws_heldWorld, g0, g1, g2, g3, Option.bind_some, cond_false, dec_false (show ¬ ((a + wl MN_iLiE a0c0 : Nat) : Int) < 0 by omega), dec_false (show ¬ ((a + wl MN_iLiE a0c0 + wl MN_ibiiLiELiiisELiELsEiiiiiiiiiLiEiiiLiELiiiLiiisEELiiLiEiiisLiEE a0c1 : Nat) : Int) < 0 by omega), dec_false (show ¬ ((a + wl MN_iLiE a0c0 + wl MN_ibiiLiELiiisELiELsEiiiiiiiiiLiEiiiLiELiiiLiiisEELiiLiEiiisLiEE a0c1 + wl MN_iiiiiisiiiiiLiEiiiLiiisE a0c2 : Nat) : Int) < 0 by omega), dec_false (show ¬ ((a + wl MN_iLiE a0c0 + wl MN_ibiiLiELiiisELiELsEiiiiiiiiiLiEiiiLiELiiiLiiisEELiiLiEiiisLiEE a0c1 + wl MN_iiiiiisiiiiiLiEiiiLiiisE a0c2 + wl MN_iiLiEiiisLiE a0c3 : Nat) : Int) < 0 by omega)]

end Go.TM
