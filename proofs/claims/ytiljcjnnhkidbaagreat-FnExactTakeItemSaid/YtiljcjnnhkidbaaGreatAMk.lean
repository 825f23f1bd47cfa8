/- Marks: what the laws write they find again. -/
import Derived.Test.YtiljcjnnhkidbaaGreatAPMarkDeep
set_option linter.unusedSimpArgs false
set_option linter.unusedVariables false
namespace Go.TM
open Go
noncomputable def elt_IntS (n : Nat) : Int × Unit := (((n + 0 : Nat) : Int), ())
def MkOut_IntS (n a : Nat) {B : Type} : Sum ((L_i) × Int × Unit) B → Prop
 | .inl y => y.2.1 = ((a + 1 * n : Nat) : Int) ∧ y.1.length = n ∧ ∀ j, j < n → y.1[j]? = some (elt_IntS (a + 1 * j))
 | .inr _ => False
theorem mh_IntS (xs : L_i) (a : Nat) (h : List.length xs ≤ 4194304) (ha : a ≤ 1073741824) : ∃ l, laws_markIntS xs ((a : Nat) : Int) = some (((a + 1 * List.length xs : Nat) : Int), l, ()) ∧ laws_heldIntS l ((a : Nat) : Int) = some (((a + 1 * List.length xs : Nat) : Int), ()) ∧ List.length l = List.length xs := by
 obtain ⟨e, he, hq⟩ := loop_inv (round := laws_markIntS_r0) (x := (xs, ((a : Nat) : Int), ((0 : Nat) : Int), ())) xs.length (fun k x => ∃ l : L_i, x = (l, ((a + 1 * k : Nat) : Int), ((k : Nat) : Int), ()) ∧ l.length = xs.length ∧ ∀ j, j < k → l[j]? = some (elt_IntS (a + 1 * j)))
   (MkOut_IntS xs.length a) (by
   rintro x ⟨l, rfl, hl, hj⟩
   refine ⟨.inl (l, ((a + 1 * xs.length : Nat) : Int), ()), ?_, rfl, hl, hj⟩; simp only [laws_markIntS_r0, laws_markIntS_c0, hl, lt_nat_irr, cond_false]) (by
   rintro k x hk ⟨l, rfl, hl, hj⟩
   have hkl : k < l.length := by omega
   refine .inr ⟨_, ?_, l.set k (elt_IntS (a + 1 * k)), rfl, by simp [hl], fun j hj' => ?_⟩
   · have e0 : ((a + 1 * k : Nat) : Int) = ((a + 1 * k + 0 : Nat) : Int) := rfl; have e1 : IntKind.i64.wrap (((a + 1 * k + 0 : Nat) : Int) + (1 : Int)) = ((a + 1 * k + 1 : Nat) : Int) := by rw [wrap_id] <;> omega
     have ez : ((a + 1 * k + 1 : Nat) : Int) = ((a + 1 * (k + 1) : Nat) : Int) := by omega
     rw [e0]; simp only [laws_markIntS_r0, laws_markIntS_c0, lt_nat_true hkl, zero_le_nat, cond_true, toNat_nat, List.length_set, blt_true hkl, List.getElem?_eq_getElem hkl, List.getElem?_set_self hkl, List.set_set, Option.bind_some, e1, ez, succ_wrap (show k < 4611686018427387904 by omega)]; rfl
   · rw [List.getElem?_set]
     by_cases hjk : k = j
     · subst hjk; rw [if_pos rfl, if_pos hkl]
     · rw [if_neg hjk]; exact hj j (by omega)) ⟨xs, rfl, rfl, fun j hj => by omega⟩
 cases e with
 | inr e => exact hq.elim
 | inl e =>
   obtain ⟨q1, q2, q3⟩ := hq; obtain ⟨l, m, u⟩ := e; simp only at q1 q2 q3; subst q1; refine ⟨l, ?_, ?_, q2⟩
   · unfold laws_markIntS; rw [show (0 : Int) = ((0 : Nat) : Int) from rfl, he]; rfl
   · have hl := loop_run (round := laws_heldIntS_r0) (e := .inl (((a + 1 * xs.length : Nat) : Int), ())) xs.length (fun k => (l, ((a + 1 * k : Nat) : Int), ((k : Nat) : Int), ())) (by
       simp only [laws_heldIntS_r0, laws_heldIntS_c0, q2, lt_nat_irr, cond_false]) (fun k hk => by
       have hkl : k < l.length := by omega
       have hk3 : l[k]? = some (((a + 1 * k + 0 : Nat) : Int), ()) := q3 k hk; have e0 : ((a + 1 * k : Nat) : Int) = ((a + 1 * k + 0 : Nat) : Int) := rfl; have e1 : IntKind.i64.wrap (((a + 1 * k + 0 : Nat) : Int) + (1 : Int)) = ((a + 1 * k + 1 : Nat) : Int) := by rw [wrap_id] <;> omega
       have ez : ((a + 1 * k + 1 : Nat) : Int) = ((a + 1 * (k + 1) : Nat) : Int) := by omega
       rw [e0]; simp only [laws_heldIntS_r0, laws_heldIntS_c0, lt_nat_true hkl, zero_le_nat, cond_true, cond_false, toNat_nat, hk3, decide_true, strEq_self, Bool.not_true, Option.bind_some, e1, ez, succ_wrap (show k < 4611686018427387904 by omega)])
     unfold laws_heldIntS; have hl : loopV laws_heldIntS_r0 (l, ((a + 1 * 0 : Nat) : Int), (0 : Int), ()) = _ := hl; rw [Nat.mul_zero, Nat.add_zero] at hl; rw [hl]; rfl
theorem mh_Ring (a0c0 : Int) (a0c1 : L_i) (a : Nat) (h1 : List.length a0c1 ≤ 4194304) (ha : a ≤ 536870912) : ∃ l1, laws_markRing a0c0 a0c1 ((a : Nat) : Int) = some (((a + 1 * List.length a0c1 : Nat) : Int), l1, ()) ∧ laws_heldRing a0c0 l1 ((a : Nat) : Int) = some (((a + 1 * List.length a0c1 : Nat) : Int), ()) ∧ List.length l1 = List.length a0c1 := by
 obtain ⟨l1, e0, g0, nl1⟩ := mh_IntS a0c1 (a) h1 (by omega); refine ⟨l1, ?_, ?_, nl1⟩
 · simp only [laws_markRing, e0, Option.bind_some]
 · simp only [laws_heldRing, g0, Option.bind_some, cond_false, dec_false (show ¬ ((a + 1 * List.length a0c1 : Nat) : Int) < 0 by omega)]
noncomputable def elt_ItemS (n : Nat) : R_iiis := (((n + 0 : Nat) : Int), ((n + 1 : Nat) : Int), ((n + 2 : Nat) : Int), markOf (n + 3), ())
def MkOut_ItemS (n a : Nat) {B : Type} : Sum ((L_iiis) × Int × Unit) B → Prop
 | .inl y => y.2.1 = ((a + 4 * n : Nat) : Int) ∧ y.1.length = n ∧ ∀ j, j < n → y.1[j]? = some (elt_ItemS (a + 4 * j))
 | .inr _ => False
theorem mh_ItemS (xs : L_iiis) (a : Nat) (h : List.length xs ≤ 4194304) (ha : a ≤ 1073741824) : ∃ l, laws_markItemS xs ((a : Nat) : Int) = some (((a + 4 * List.length xs : Nat) : Int), l, ()) ∧ laws_heldItemS l ((a : Nat) : Int) = some (((a + 4 * List.length xs : Nat) : Int), ()) ∧ List.length l = List.length xs := by
 obtain ⟨e, he, hq⟩ := loop_inv (round := laws_markItemS_r0) (x := (xs, ((a : Nat) : Int), ((0 : Nat) : Int), ())) xs.length (fun k x => ∃ l : L_iiis, x = (l, ((a + 4 * k : Nat) : Int), ((k : Nat) : Int), ()) ∧ l.length = xs.length ∧ ∀ j, j < k → l[j]? = some (elt_ItemS (a + 4 * j)))
   (MkOut_ItemS xs.length a) (by
   rintro x ⟨l, rfl, hl, hj⟩
   refine ⟨.inl (l, ((a + 4 * xs.length : Nat) : Int), ()), ?_, rfl, hl, hj⟩; simp only [laws_markItemS_r0, laws_markItemS_c0, hl, lt_nat_irr, cond_false]) (by
   rintro k x hk ⟨l, rfl, hl, hj⟩
   have hkl : k < l.length := by omega
   refine .inr ⟨_, ?_, l.set k (elt_ItemS (a + 4 * k)), rfl, by simp [hl], fun j hj' => ?_⟩
   · have e0 : ((a + 4 * k : Nat) : Int) = ((a + 4 * k + 0 : Nat) : Int) := rfl; have e1 : IntKind.i64.wrap (((a + 4 * k + 0 : Nat) : Int) + (1 : Int)) = ((a + 4 * k + 1 : Nat) : Int) := by rw [wrap_id] <;> omega
     have e2 : IntKind.i64.wrap (((a + 4 * k + 1 : Nat) : Int) + (1 : Int)) = ((a + 4 * k + 2 : Nat) : Int) := by rw [wrap_id] <;> omega
     have e3 : IntKind.i64.wrap (((a + 4 * k + 2 : Nat) : Int) + (1 : Int)) = ((a + 4 * k + 3 : Nat) : Int) := by rw [wrap_id] <;> omega
     have e4 : IntKind.i64.wrap (((a + 4 * k + 3 : Nat) : Int) + (1 : Int)) = ((a + 4 * k + 4 : Nat) : Int) := by rw [wrap_id] <;> omega
     have ez : ((a + 4 * k + 4 : Nat) : Int) = ((a + 4 * (k + 1) : Nat) : Int) := by omega
     rw [e0]; simp only [laws_markItemS_r0, laws_markItemS_c0, lt_nat_true hkl, zero_le_nat, cond_true, toNat_nat, List.length_set, blt_true hkl, List.getElem?_eq_getElem hkl, List.getElem?_set_self hkl, List.set_set, Option.bind_some, markOf_eq (show a + 4 * k + 3 < 1099511627776 by omega), e1, e2, e3, e4, ez, succ_wrap (show k < 4611686018427387904 by omega)]; rfl
   · rw [List.getElem?_set]
     by_cases hjk : k = j
     · subst hjk; rw [if_pos rfl, if_pos hkl]
     · rw [if_neg hjk]; exact hj j (by omega)) ⟨xs, rfl, rfl, fun j hj => by omega⟩
 cases e with
 | inr e => exact hq.elim
 | inl e =>
   obtain ⟨q1, q2, q3⟩ := hq; obtain ⟨l, m, u⟩ := e; simp only at q1 q2 q3; subst q1; refine ⟨l, ?_, ?_, q2⟩
   · unfold laws_markItemS; rw [show (0 : Int) = ((0 : Nat) : Int) from rfl, he]; rfl
   · have hl := loop_run (round := laws_heldItemS_r0) (e := .inl (((a + 4 * xs.length : Nat) : Int), ())) xs.length (fun k => (l, ((a + 4 * k : Nat) : Int), ((k : Nat) : Int), ())) (by
       simp only [laws_heldItemS_r0, laws_heldItemS_c0, q2, lt_nat_irr, cond_false]) (fun k hk => by
       have hkl : k < l.length := by omega
       have hk3 : l[k]? = some (((a + 4 * k + 0 : Nat) : Int), ((a + 4 * k + 1 : Nat) : Int), ((a + 4 * k + 2 : Nat) : Int), markOf (a + 4 * k + 3), ()) := q3 k hk; have e0 : ((a + 4 * k : Nat) : Int) = ((a + 4 * k + 0 : Nat) : Int) := rfl; have e1 : IntKind.i64.wrap (((a + 4 * k + 0 : Nat) : Int) + (1 : Int)) = ((a + 4 * k + 1 : Nat) : Int) := by rw [wrap_id] <;> omega
       have e2 : IntKind.i64.wrap (((a + 4 * k + 1 : Nat) : Int) + (1 : Int)) = ((a + 4 * k + 2 : Nat) : Int) := by rw [wrap_id] <;> omega
       have e3 : IntKind.i64.wrap (((a + 4 * k + 2 : Nat) : Int) + (1 : Int)) = ((a + 4 * k + 3 : Nat) : Int) := by rw [wrap_id] <;> omega
       have e4 : IntKind.i64.wrap (((a + 4 * k + 3 : Nat) : Int) + (1 : Int)) = ((a + 4 * k + 4 : Nat) : Int) := by rw [wrap_id] <;> omega
       have ez : ((a + 4 * k + 4 : Nat) : Int) = ((a + 4 * (k + 1) : Nat) : Int) := by omega
       rw [e0]; simp only [laws_heldItemS_r0, laws_heldItemS_c0, lt_nat_true hkl, zero_le_nat, cond_true, cond_false, toNat_nat, hk3, decide_true, strEq_self, Bool.not_true, Option.bind_some, markOf_eq (show a + 4 * k + 3 < 1099511627776 by omega), e1, e2, e3, e4, ez, succ_wrap (show k < 4611686018427387904 by omega)])
     unfold laws_heldItemS; have hl : loopV laws_heldItemS_r0 (l, ((a + 4 * 0 : Nat) : Int), (0 : Int), ()) = _ := hl; rw [Nat.mul_zero, Nat.add_zero] at hl; rw [hl]; rfl
noncomputable def elt_StringS (n : Nat) : ByteArray × Unit := (markOf (n + 0), ())
def MkOut_StringS (n a : Nat) {B : Type} : Sum ((L_s) × Int × Unit) B → Prop
 | .inl y => y.2.1 = ((a + 1 * n : Nat) : Int) ∧ y.1.length = n ∧ ∀ j, j < n → y.1[j]? = some (elt_StringS (a + 1 * j))
 | .inr _ => False
theorem mh_StringS (xs : L_s) (a : Nat) (h : List.length xs ≤ 4194304) (ha : a ≤ 1073741824) : ∃ l, laws_markStringS xs ((a : Nat) : Int) = some (((a + 1 * List.length xs : Nat) : Int), l, ()) ∧ laws_heldStringS l ((a : Nat) : Int) = some (((a + 1 * List.length xs : Nat) : Int), ()) ∧ List.length l = List.length xs := by
 obtain ⟨e, he, hq⟩ := loop_inv (round := laws_markStringS_r0) (x := (xs, ((a : Nat) : Int), ((0 : Nat) : Int), ())) xs.length (fun k x => ∃ l : L_s, x = (l, ((a + 1 * k : Nat) : Int), ((k : Nat) : Int), ()) ∧ l.length = xs.length ∧ ∀ j, j < k → l[j]? = some (elt_StringS (a + 1 * j)))
   (MkOut_StringS xs.length a) (by
   rintro x ⟨l, rfl, hl, hj⟩
   refine ⟨.inl (l, ((a + 1 * xs.length : Nat) : Int), ()), ?_, rfl, hl, hj⟩; simp only [laws_markStringS_r0, laws_markStringS_c0, hl, lt_nat_irr, cond_false]) (by
   rintro k x hk ⟨l, rfl, hl, hj⟩
   have hkl : k < l.length := by omega
   refine .inr ⟨_, ?_, l.set k (elt_StringS (a + 1 * k)), rfl, by simp [hl], fun j hj' => ?_⟩
   · have e0 : ((a + 1 * k : Nat) : Int) = ((a + 1 * k + 0 : Nat) : Int) := rfl; have e1 : IntKind.i64.wrap (((a + 1 * k + 0 : Nat) : Int) + (1 : Int)) = ((a + 1 * k + 1 : Nat) : Int) := by rw [wrap_id] <;> omega
     have ez : ((a + 1 * k + 1 : Nat) : Int) = ((a + 1 * (k + 1) : Nat) : Int) := by omega
     rw [e0]; simp only [laws_markStringS_r0, laws_markStringS_c0, lt_nat_true hkl, zero_le_nat, cond_true, toNat_nat, List.length_set, blt_true hkl, List.getElem?_eq_getElem hkl, List.getElem?_set_self hkl, List.set_set, Option.bind_some, markOf_eq (show a + 1 * k + 0 < 1099511627776 by omega), e1, ez, succ_wrap (show k < 4611686018427387904 by omega)]; rfl
   · rw [List.getElem?_set]
     by_cases hjk : k = j
     · subst hjk; rw [if_pos rfl, if_pos hkl]
     · rw [if_neg hjk]; exact hj j (by omega)) ⟨xs, rfl, rfl, fun j hj => by omega⟩
 cases e with
 | inr e => exact hq.elim
 | inl e =>
   obtain ⟨q1, q2, q3⟩ := hq; obtain ⟨l, m, u⟩ := e; simp only at q1 q2 q3; subst q1; refine ⟨l, ?_, ?_, q2⟩
   · unfold laws_markStringS; rw [show (0 : Int) = ((0 : Nat) : Int) from rfl, he]; rfl
   · have hl := loop_run (round := laws_heldStringS_r0) (e := .inl (((a + 1 * xs.length : Nat) : Int), ())) xs.length (fun k => (l, ((a + 1 * k : Nat) : Int), ((k : Nat) : Int), ())) (by
       simp only [laws_heldStringS_r0, laws_heldStringS_c0, q2, lt_nat_irr, cond_false]) (fun k hk => by
       have hkl : k < l.length := by omega
       have hk3 : l[k]? = some (markOf (a + 1 * k + 0), ()) := q3 k hk; have e0 : ((a + 1 * k : Nat) : Int) = ((a + 1 * k + 0 : Nat) : Int) := rfl; have e1 : IntKind.i64.wrap (((a + 1 * k + 0 : Nat) : Int) + (1 : Int)) = ((a + 1 * k + 1 : Nat) : Int) := by rw [wrap_id] <;> omega
       have ez : ((a + 1 * k + 1 : Nat) : Int) = ((a + 1 * (k + 1) : Nat) : Int) := by omega
       rw [e0]; simp only [laws_heldStringS_r0, laws_heldStringS_c0, lt_nat_true hkl, zero_le_nat, cond_true, cond_false, toNat_nat, hk3, decide_true, strEq_self, Bool.not_true, Option.bind_some, markOf_eq (show a + 1 * k + 0 < 1099511627776 by omega), e1, ez, succ_wrap (show k < 4611686018427387904 by omega)])
     unfold laws_heldStringS; have hl : loopV laws_heldStringS_r0 (l, ((a + 1 * 0 : Nat) : Int), (0 : Int), ()) = _ := hl; rw [Nat.mul_zero, Nat.add_zero] at hl; rw [hl]; rfl
theorem mh_Token (a0c0 : Int) (a0c1 : Int) (a0c2 : Int) (a0c3 : Int) (a0c4 : Int) (a0c5 : L_i) (a : Nat) (h5 : List.length a0c5 ≤ 4194304) (ha : a ≤ 536870912) : ∃ l5, laws_markToken a0c0 a0c1 a0c2 a0c3 a0c4 a0c5 ((a : Nat) : Int) = some (((a + 1 * List.length a0c5 : Nat) : Int), l5, ()) ∧ laws_heldToken a0c0 a0c1 a0c2 a0c3 a0c4 l5 ((a : Nat) : Int) = some (((a + 1 * List.length a0c5 : Nat) : Int), ()) ∧ List.length l5 = List.length a0c5 := by
 obtain ⟨l5, e0, g0, nl5⟩ := mh_IntS a0c5 (a) h5 (by omega); refine ⟨l5, ?_, ?_, nl5⟩
 · simp only [laws_markToken, e0, Option.bind_some]
 · simp only [laws_heldToken, g0, Option.bind_some, cond_false, dec_false (show ¬ ((a + 1 * List.length a0c5 : Nat) : Int) < 0 by omega)]
theorem mh_Mate (a0c0 : Int) (a0c1 : Int) (a0c2 : L_i) (a0c3 : L_iiis) (a0c4 : L_i) (a0c5 : L_s) (a0c6 : Int) (a0c7 : Int) (a0c8 : Int) (a0c9 : Int) (a0c10 : Int) (a0c11 : Int) (a0c12 : Int) (a0c13 : Int) (a0c14 : Int) (a0c15 : L_i) (a : Nat) (h2 : List.length a0c2 ≤ 4194304) (h3 : List.length a0c3 ≤ 4194304) (h4 : List.length a0c4 ≤ 4194304) (h5 : List.length a0c5 ≤ 4194304) (h15 : List.length a0c15 ≤ 4194304) (ha : a ≤ 268435456) : ∃ l2 l3 l4 l5 l15, laws_markMate a0c0 a0c1 a0c2 a0c3 a0c4 a0c5 a0c6 a0c7 a0c8 a0c9 a0c10 a0c11 a0c12 a0c13 a0c14 a0c15 ((a : Nat) : Int) = some (((a + 1 * List.length a0c2 + 4 * List.length a0c3 + 1 * List.length a0c4 + 1 * List.length a0c5 + 1 * List.length a0c15 : Nat) : Int), l2, l3, l4, l5, l15, ()) ∧ laws_heldMate a0c0 a0c1 l2 l3 l4 l5 a0c6 a0c7 a0c8 a0c9 a0c10 a0c11 a0c12 a0c13 a0c14 l15 ((a : Nat) : Int) = some (((a + 1 * List.length a0c2 + 4 * List.length a0c3 + 1 * List.length a0c4 + 1 * List.length a0c5 + 1 * List.length a0c15 : Nat) : Int), ()) ∧ List.length l2 = List.length a0c2 ∧ List.length l3 = List.length a0c3 ∧ List.length l4 = List.length a0c4 ∧ List.length l5 = List.length a0c5 ∧ List.length l15 = List.length a0c15 := by
 obtain ⟨l2, e0, g0, nl2⟩ := mh_Ring a0c1 a0c2 (a) h2 (by omega); obtain ⟨l3, e1, g1, nl3⟩ := mh_ItemS a0c3 (a + 1 * List.length a0c2) h3 (by omega); obtain ⟨l4, e2, g2, nl4⟩ := mh_IntS a0c4 (a + 1 * List.length a0c2 + 4 * List.length a0c3) h4 (by omega); obtain ⟨l5, e3, g3, nl5⟩ := mh_StringS a0c5 (a + 1 * List.length a0c2 + 4 * List.length a0c3 + 1 * List.length a0c4) h5 (by omega); obtain ⟨l15, e4, g4, nl15⟩ := mh_Token a0c10 a0c11 a0c12 a0c13 a0c14 a0c15 (a + 1 * List.length a0c2 + 4 * List.length a0c3 + 1 * List.length a0c4 + 1 * List.length a0c5) h15 (by omega); refine ⟨l2, l3, l4, l5, l15, ?_, ?_, nl2, nl3, nl4, nl5, nl15⟩
 · simp only [laws_markMate, e0, e1, e2, e3, e4, Option.bind_some]
 · simp only [laws_heldMate, g0, g1, g2, g3, g4, Option.bind_some, cond_false, dec_false (show ¬ ((a + 1 * List.length a0c2 : Nat) : Int) < 0 by omega), dec_false (show ¬ ((a + 1 * List.length a0c2 + 4 * List.length a0c3 : Nat) : Int) < 0 by omega), dec_false (show ¬ ((a + 1 * List.length a0c2 + 4 * List.length a0c3 + 1 * List.length a0c4 : Nat) : Int) < 0 by omega), dec_false (show ¬ ((a + 1 * List.length a0c2 + 4 * List.length a0c3 + 1 * List.length a0c4 + 1 * List.length a0c5 : Nat) : Int) < 0 by omega), dec_false (show ¬ ((a + 1 * List.length a0c2 + 4 * List.length a0c3 + 1 * List.length a0c4 + 1 * List.length a0c5 + 1 * List.length a0c15 : Nat) : Int) < 0 by omega)]
def MN_iiiLiiisE (x : R_iiiLiiisE) : Nat := 1 + 1 + 1 + 4 * List.length x.2.2.2.1
theorem mn_iiiLiiisE (x : R_iiiLiiisE) : MN_iiiLiiisE x ≤ 4 * (1 + W_iiiLiiisE x) := by
 unfold MN_iiiLiiisE W_iiiLiiisE; omega
theorem mnl_iiiLiiisE (xs : List (R_iiiLiiisE)) : wl MN_iiiLiiisE xs ≤ 4 * (List.length xs + wl W_iiiLiiisE xs) := wl_scale _ _ 4 mn_iiiLiiisE xs
def HD_BundleS (x : R_iiiLiiisE) (n : Nat) (y : R_iiiLiiisE) : Prop := y.1 = ((n : Nat) : Int) ∧ y.2.1 = ((n + 1 : Nat) : Int) ∧ y.2.2.1 = ((n + 1 + 1 : Nat) : Int) ∧ laws_heldItemS y.2.2.2.1 ((n + 1 + 1 + 1 : Nat) : Int) = some (((n + 1 + 1 + 1 + 4 * List.length x.2.2.2.1 : Nat) : Int), ())
theorem st_BundleS (l : List (R_iiiLiiisE)) (k : Nat) (z : R_iiiLiiisE) (n : Nat) (hk : k < l.length) (hk4 : k < 4611686018427387904) (hz : l[k]? = some z) (hw : W_iiiLiiisE z ≤ 4194304) (hn : n + MN_iiiLiiisE z ≤ 553648128) : ∃ y, HD_BundleS z n y ∧ laws_markBundleS_r0 (l, ((n : Nat) : Int), ((k : Nat) : Int), ()) = some (.inl (l.set k y, ((n + MN_iiiLiiisE z : Nat) : Int), ((k + 1 : Nat) : Int), ())) := by
 have hm : n + 1 + 1 + 1 + 4 * List.length z.2.2.2.1 = n + MN_iiiLiiisE z := by unfold MN_iiiLiiisE; omega
 have b0 : n ≤ 1073741824 := by omega
 have b1 : n + 1 ≤ 1073741824 := by omega
 have b2 : n + 1 + 1 ≤ 1073741824 := by omega
 have b3 : n + 1 + 1 + 1 ≤ 1073741824 := by omega
 have hw0 : W_iiiLiiisE z = (List.length z.2.2.2.1 + wl W_iiis z.2.2.2.1) := rfl; obtain ⟨l3, e3, g3, _⟩ := mh_ItemS z.2.2.2.1 (n + 1 + 1 + 1) (by omega) (by omega); refine ⟨(((n : Nat) : Int), ((n + 1 : Nat) : Int), ((n + 1 + 1 : Nat) : Int), l3, ()), ⟨rfl, rfl, rfl, g3⟩, ?_⟩; rw [← hm]; simp only [laws_markBundleS_r0, laws_markBundleS_c0, lt_nat_true hk, zero_le_nat, cond_true, toNat_nat, List.length_set, blt_true hk, hz, List.getElem?_set_self hk, List.set_set, Option.bind_some, e3, succ_w b0, succ_w b1, succ_w b2, succ_wrap hk4]
theorem sh_BundleS (l : List (R_iiiLiiisE)) (k : Nat) (z y : R_iiiLiiisE) (n : Nat) (hk : k < l.length) (hk4 : k < 4611686018427387904) (hy : l[k]? = some y) (hd : HD_BundleS z n y) (hn : n + MN_iiiLiiisE z ≤ 553648128) : laws_heldBundleS_r0 (l, ((n : Nat) : Int), ((k : Nat) : Int), ()) = some (.inl (l, ((n + MN_iiiLiiisE z : Nat) : Int), ((k + 1 : Nat) : Int), ())) := by
 have hm : n + 1 + 1 + 1 + 4 * List.length z.2.2.2.1 = n + MN_iiiLiiisE z := by unfold MN_iiiLiiisE; omega
 have b0 : n ≤ 1073741824 := by omega
 have b1 : n + 1 ≤ 1073741824 := by omega
 have b2 : n + 1 + 1 ≤ 1073741824 := by omega
 have b3 : n + 1 + 1 + 1 ≤ 1073741824 := by omega
 obtain ⟨h0, h1, h2, h3⟩ := hd; rw [← hm]; simp only [laws_heldBundleS_r0, laws_heldBundleS_c0, lt_nat_true hk, zero_le_nat, cond_true, cond_false, toNat_nat, hy, decide_true, strEq_self, beq_self_eq_true, Bool.not_true, Option.bind_some, h0, h1, h2, h3, succ_w b0, succ_w b1, succ_w b2, nat_neg, succ_wrap hk4]
theorem mh_BundleS (xs : List (R_iiiLiiisE)) (a : Nat) (h : List.length xs + wl W_iiiLiiisE xs ≤ 4194304) (ha : a ≤ 536870912) : ∃ l, laws_markBundleS xs ((a : Nat) : Int) = some (((a + wl MN_iiiLiiisE xs : Nat) : Int), l, ()) ∧ laws_heldBundleS l ((a : Nat) : Int) = some (((a + wl MN_iiiLiiisE xs : Nat) : Int), ()) ∧ (List.length l = List.length xs ∧ wl MN_iiiLiiisE xs ≤ 4 * (List.length xs + wl W_iiiLiiisE xs)) := by
 have hm := mnl_iiiLiiisE xs; obtain ⟨l, h1, h2, h3⟩ := mark_loop MN_iiiLiiisE HD_BundleS laws_markBundleS_r0 xs a (fun l m hl => by simp only [laws_markBundleS_r0, laws_markBundleS_c0, hl, lt_nat_irr, cond_false]) (fun l k hk n hl hz hn => st_BundleS l k xs[k] n (by omega) (by omega) hz (Nat.le_trans (wl_mem W_iiiLiiisE xs _ (List.getElem_mem hk)) (by omega)) (by omega)); refine ⟨l, ?_, ?_, h2, hm⟩
 · unfold laws_markBundleS; rw [h1]; rfl
 · have h4 := held_loop MN_iiiLiiisE HD_BundleS laws_heldBundleS_r0 xs l a h2 h3 (fun m => by simp only [laws_heldBundleS_r0, laws_heldBundleS_c0, h2, lt_nat_irr, cond_false]) (fun k hk n y hk' hy hd hn => sh_BundleS l k xs[k] y n hk' (by omega) hy hd (by omega)); unfold laws_heldBundleS; rw [h4]; rfl
def MN_iiLiEiiisLiE (x : R_iiLiEiiisLiE) : Nat := 1 + 1 + 1 * List.length x.2.2.1 + 1 + 1 + 1 + 1 + 1 * List.length x.2.2.2.2.2.2.2.1
theorem mn_iiLiEiiisLiE (x : R_iiLiEiiisLiE) : MN_iiLiEiiisLiE x ≤ 6 * (1 + W_iiLiEiiisLiE x) := by
 unfold MN_iiLiEiiisLiE W_iiLiEiiisLiE; omega
theorem mnl_iiLiEiiisLiE (xs : List (R_iiLiEiiisLiE)) : wl MN_iiLiEiiisLiE xs ≤ 6 * (List.length xs + wl W_iiLiEiiisLiE xs) := wl_scale _ _ 6 mn_iiLiEiiisLiE xs
def HD_EventS (x : R_iiLiEiiisLiE) (n : Nat) (y : R_iiLiEiiisLiE) : Prop := y.1 = ((n : Nat) : Int) ∧ y.2.1 = ((n + 1 : Nat) : Int) ∧ laws_heldIntS y.2.2.1 ((n + 1 + 1 : Nat) : Int) = some (((n + 1 + 1 + 1 * List.length x.2.2.1 : Nat) : Int), ()) ∧ y.2.2.2.1 = ((n + 1 + 1 + 1 * List.length x.2.2.1 : Nat) : Int) ∧ y.2.2.2.2.1 = ((n + 1 + 1 + 1 * List.length x.2.2.1 + 1 : Nat) : Int) ∧ y.2.2.2.2.2.1 = ((n + 1 + 1 + 1 * List.length x.2.2.1 + 1 + 1 : Nat) : Int) ∧ y.2.2.2.2.2.2.1 = markOf (n + 1 + 1 + 1 * List.length x.2.2.1 + 1 + 1 + 1) ∧ laws_heldIntS y.2.2.2.2.2.2.2.1 ((n + 1 + 1 + 1 * List.length x.2.2.1 + 1 + 1 + 1 + 1 : Nat) : Int) = some (((n + 1 + 1 + 1 * List.length x.2.2.1 + 1 + 1 + 1 + 1 + 1 * List.length x.2.2.2.2.2.2.2.1 : Nat) : Int), ())
theorem st_EventS (l : List (R_iiLiEiiisLiE)) (k : Nat) (z : R_iiLiEiiisLiE) (n : Nat) (hk : k < l.length) (hk4 : k < 4611686018427387904) (hz : l[k]? = some z) (hw : W_iiLiEiiisLiE z ≤ 4194304) (hn : n + MN_iiLiEiiisLiE z ≤ 562036736) : ∃ y, HD_EventS z n y ∧ laws_markEventS_r0 (l, ((n : Nat) : Int), ((k : Nat) : Int), ()) = some (.inl (l.set k y, ((n + MN_iiLiEiiisLiE z : Nat) : Int), ((k + 1 : Nat) : Int), ())) := by
 have hm : n + 1 + 1 + 1 * List.length z.2.2.1 + 1 + 1 + 1 + 1 + 1 * List.length z.2.2.2.2.2.2.2.1 = n + MN_iiLiEiiisLiE z := by unfold MN_iiLiEiiisLiE; omega
 have b0 : n ≤ 1073741824 := by omega
 have b1 : n + 1 ≤ 1073741824 := by omega
 have b2 : n + 1 + 1 ≤ 1073741824 := by omega
 have b3 : n + 1 + 1 + 1 * List.length z.2.2.1 ≤ 1073741824 := by omega
 have b4 : n + 1 + 1 + 1 * List.length z.2.2.1 + 1 ≤ 1073741824 := by omega
 have b5 : n + 1 + 1 + 1 * List.length z.2.2.1 + 1 + 1 ≤ 1073741824 := by omega
 have b6 : n + 1 + 1 + 1 * List.length z.2.2.1 + 1 + 1 + 1 ≤ 1073741824 := by omega
 have b7 : n + 1 + 1 + 1 * List.length z.2.2.1 + 1 + 1 + 1 + 1 ≤ 1073741824 := by omega
 have hw0 : W_iiLiEiiisLiE z = (List.length z.2.2.1 + wl W_i z.2.2.1) + ByteArray.size z.2.2.2.2.2.2.1 + (List.length z.2.2.2.2.2.2.2.1 + wl W_i z.2.2.2.2.2.2.2.1) := rfl; obtain ⟨l2, e2, g2, _⟩ := mh_IntS z.2.2.1 (n + 1 + 1) (by omega) (by omega); obtain ⟨l7, e7, g7, _⟩ := mh_IntS z.2.2.2.2.2.2.2.1 (n + 1 + 1 + 1 * List.length z.2.2.1 + 1 + 1 + 1 + 1) (by omega) (by omega); refine ⟨(((n : Nat) : Int), ((n + 1 : Nat) : Int), l2, ((n + 1 + 1 + 1 * List.length z.2.2.1 : Nat) : Int), ((n + 1 + 1 + 1 * List.length z.2.2.1 + 1 : Nat) : Int), ((n + 1 + 1 + 1 * List.length z.2.2.1 + 1 + 1 : Nat) : Int), markOf (n + 1 + 1 + 1 * List.length z.2.2.1 + 1 + 1 + 1), l7, ()), ⟨rfl, rfl, g2, rfl, rfl, rfl, rfl, g7⟩, ?_⟩; rw [← hm]; simp only [laws_markEventS_r0, laws_markEventS_c0, lt_nat_true hk, zero_le_nat, cond_true, toNat_nat, List.length_set, blt_true hk, hz, List.getElem?_set_self hk, List.set_set, Option.bind_some, e2, e7, succ_w b0, succ_w b1, succ_w b3, succ_w b4, succ_w b5, succ_w b6, markOf_w b6, succ_wrap hk4]
theorem sh_EventS (l : List (R_iiLiEiiisLiE)) (k : Nat) (z y : R_iiLiEiiisLiE) (n : Nat) (hk : k < l.length) (hk4 : k < 4611686018427387904) (hy : l[k]? = some y) (hd : HD_EventS z n y) (hn : n + MN_iiLiEiiisLiE z ≤ 562036736) : laws_heldEventS_r0 (l, ((n : Nat) : Int), ((k : Nat) : Int), ()) = some (.inl (l, ((n + MN_iiLiEiiisLiE z : Nat) : Int), ((k + 1 : Nat) : Int), ())) := by
 have hm : n + 1 + 1 + 1 * List.length z.2.2.1 + 1 + 1 + 1 + 1 + 1 * List.length z.2.2.2.2.2.2.2.1 = n + MN_iiLiEiiisLiE z := by unfold MN_iiLiEiiisLiE; omega
 have b0 : n ≤ 1073741824 := by omega
 have b1 : n + 1 ≤ 1073741824 := by omega
 have b2 : n + 1 + 1 ≤ 1073741824 := by omega
 have b3 : n + 1 + 1 + 1 * List.length z.2.2.1 ≤ 1073741824 := by omega
 have b4 : n + 1 + 1 + 1 * List.length z.2.2.1 + 1 ≤ 1073741824 := by omega
 have b5 : n + 1 + 1 + 1 * List.length z.2.2.1 + 1 + 1 ≤ 1073741824 := by omega
 have b6 : n + 1 + 1 + 1 * List.length z.2.2.1 + 1 + 1 + 1 ≤ 1073741824 := by omega
 have b7 : n + 1 + 1 + 1 * List.length z.2.2.1 + 1 + 1 + 1 + 1 ≤ 1073741824 := by omega
 obtain ⟨h0, h1, h2, h3, h4, h5, h6, h7⟩ := hd; rw [← hm]; simp only [laws_heldEventS_r0, laws_heldEventS_c0, lt_nat_true hk, zero_le_nat, cond_true, cond_false, toNat_nat, hy, decide_true, strEq_self, beq_self_eq_true, Bool.not_true, Option.bind_some, h0, h1, h2, h3, h4, h5, h6, h7, succ_w b0, succ_w b1, succ_w b3, succ_w b4, succ_w b5, succ_w b6, markOf_w b6, nat_neg, succ_wrap hk4]
theorem mh_EventS (xs : List (R_iiLiEiiisLiE)) (a : Nat) (h : List.length xs + wl W_iiLiEiiisLiE xs ≤ 4194304) (ha : a ≤ 536870912) : ∃ l, laws_markEventS xs ((a : Nat) : Int) = some (((a + wl MN_iiLiEiiisLiE xs : Nat) : Int), l, ()) ∧ laws_heldEventS l ((a : Nat) : Int) = some (((a + wl MN_iiLiEiiisLiE xs : Nat) : Int), ()) ∧ (List.length l = List.length xs ∧ wl MN_iiLiEiiisLiE xs ≤ 6 * (List.length xs + wl W_iiLiEiiisLiE xs)) := by
 have hm := mnl_iiLiEiiisLiE xs; obtain ⟨l, h1, h2, h3⟩ := mark_loop MN_iiLiEiiisLiE HD_EventS laws_markEventS_r0 xs a (fun l m hl => by simp only [laws_markEventS_r0, laws_markEventS_c0, hl, lt_nat_irr, cond_false]) (fun l k hk n hl hz hn => st_EventS l k xs[k] n (by omega) (by omega) hz (Nat.le_trans (wl_mem W_iiLiEiiisLiE xs _ (List.getElem_mem hk)) (by omega)) (by omega)); refine ⟨l, ?_, ?_, h2, hm⟩
 · unfold laws_markEventS; rw [h1]; rfl
 · have h4 := held_loop MN_iiLiEiiisLiE HD_EventS laws_heldEventS_r0 xs l a h2 h3 (fun m => by simp only [laws_heldEventS_r0, laws_heldEventS_c0, h2, lt_nat_irr, cond_false]) (fun k hk n y hk' hy hd hn => sh_EventS l k xs[k] y n hk' (by omega) hy hd (by omega)); unfold laws_heldEventS; rw [h4]; rfl
theorem mh_Daemon (a0c0 : Int) (a0c1 : Bool) (a0c2 : Int) (a0c3 : Int) (a0c4 : L_i) (a0c5 : L_iiis) (a0c6 : L_i) (a0c7 : L_s) (a0c8 : Int) (a0c9 : Int) (a0c10 : Int) (a0c11 : Int) (a0c12 : Int) (a0c13 : Int) (a0c14 : Int) (a0c15 : Int) (a0c16 : Int) (a0c17 : L_i) (a0c18 : Int) (a0c19 : Int) (a0c20 : Int) (a0c21 : L_i) (a0c22 : L_iiiLiiisE) (a0c23 : L_iiLiEiiisLiE) (a : Nat) (h4 : List.length a0c4 ≤ 4194304) (h5 : List.length a0c5 ≤ 4194304) (h6 : List.length a0c6 ≤ 4194304) (h7 : List.length a0c7 ≤ 4194304) (h17 : List.length a0c17 ≤ 4194304) (h21 : List.length a0c21 ≤ 4194304) (h22 : List.length a0c22 + wl W_iiiLiiisE a0c22 ≤ 4194304) (h23 : List.length a0c23 + wl W_iiLiEiiisLiE a0c23 ≤ 4194304) (ha : a ≤ 134217728) : ∃ l4 l5 l6 l7 l17 l21 l22 l23, laws_markDaemon a0c0 a0c1 a0c2 a0c3 a0c4 a0c5 a0c6 a0c7 a0c8 a0c9 a0c10 a0c11 a0c12 a0c13 a0c14 a0c15 a0c16 a0c17 a0c18 a0c19 a0c20 a0c21 a0c22 a0c23 ((a : Nat) : Int) = some (((a + 1 * List.length a0c4 + 4 * List.length a0c5 + 1 * List.length a0c6 + 1 * List.length a0c7 + 1 * List.length a0c17 + 1 * List.length a0c21 + wl MN_iiiLiiisE a0c22 + wl MN_iiLiEiiisLiE a0c23 : Nat) : Int), l4, l5, l6, l7, l17, l21, l22, l23, ()) ∧ laws_heldDaemon a0c0 a0c1 a0c2 a0c3 l4 l5 l6 l7 a0c8 a0c9 a0c10 a0c11 a0c12 a0c13 a0c14 a0c15 a0c16 l17 a0c18 a0c19 a0c20 l21 l22 l23 ((a : Nat) : Int) = some (((a + 1 * List.length a0c4 + 4 * List.length a0c5 + 1 * List.length a0c6 + 1 * List.length a0c7 + 1 * List.length a0c17 + 1 * List.length a0c21 + wl MN_iiiLiiisE a0c22 + wl MN_iiLiEiiisLiE a0c23 : Nat) : Int), ()) ∧ List.length l4 = List.length a0c4 ∧ List.length l5 = List.length a0c5 ∧ List.length l6 = List.length a0c6 ∧ List.length l7 = List.length a0c7 ∧ List.length l17 = List.length a0c17 ∧ List.length l21 = List.length a0c21 ∧ (List.length l22 = List.length a0c22 ∧ wl MN_iiiLiiisE a0c22 ≤ 4 * (List.length a0c22 + wl W_iiiLiiisE a0c22)) ∧ (List.length l23 = List.length a0c23 ∧ wl MN_iiLiEiiisLiE a0c23 ≤ 6 * (List.length a0c23 + wl W_iiLiEiiisLiE a0c23)) := by
 obtain ⟨l4, l5, l6, l7, l17, e0, g0, nl4, nl5, nl6, nl7, nl17⟩ := mh_Mate a0c2 a0c3 a0c4 a0c5 a0c6 a0c7 a0c8 a0c9 a0c10 a0c11 a0c12 a0c13 a0c14 a0c15 a0c16 a0c17 (a) h4 h5 h6 h7 h17 (by omega); obtain ⟨l21, e1, g1, nl21⟩ := mh_Ring a0c20 a0c21 (a + 1 * List.length a0c4 + 4 * List.length a0c5 + 1 * List.length a0c6 + 1 * List.length a0c7 + 1 * List.length a0c17) h21 (by omega); obtain ⟨l22, e2, g2, nl22⟩ := mh_BundleS a0c22 (a + 1 * List.length a0c4 + 4 * List.length a0c5 + 1 * List.length a0c6 + 1 * List.length a0c7 + 1 * List.length a0c17 + 1 * List.length a0c21) h22 (by omega); obtain ⟨l23, e3, g3, nl23⟩ := mh_EventS a0c23 (a + 1 * List.length a0c4 + 4 * List.length a0c5 + 1 * List.length a0c6 + 1 * List.length a0c7 + 1 * List.length a0c17 + 1 * List.length a0c21 + wl MN_iiiLiiisE a0c22) h23 (by omega); refine ⟨l4, l5, l6, l7, l17, l21, l22, l23, ?_, ?_, nl4, nl5, nl6, nl7, nl17, nl21, nl22, nl23⟩
 · simp only [laws_markDaemon, e0, e1, e2, e3, Option.bind_some]
 · simp only [laws_heldDaemon, g0, g1, g2, g3, Option.bind_some, cond_false, dec_false (show ¬ ((a + 1 * List.length a0c4 + 4 * List.length a0c5 + 1 * List.length a0c6 + 1 * List.length a0c7 + 1 * List.length a0c17 : Nat) : Int) < 0 by omega), dec_false (show ¬ ((a + 1 * List.length a0c4 + 4 * List.length a0c5 + 1 * List.length a0c6 + 1 * List.length a0c7 + 1 * List.length a0c17 + 1 * List.length a0c21 : Nat) : Int) < 0 by omega), dec_false (show ¬ ((a + 1 * List.length a0c4 + 4 * List.length a0c5 + 1 * List.length a0c6 + 1 * List.length a0c7 + 1 * List.length a0c17 + 1 * List.length a0c21 + wl MN_iiiLiiisE a0c22 : Nat) : Int) < 0 by omega), dec_false (show ¬ ((a + 1 * List.length a0c4 + 4 * List.length a0c5 + 1 * List.length a0c6 + 1 * List.length a0c7 + 1 * List.length a0c17 + 1 * List.length a0c21 + wl MN_iiiLiiisE a0c22 + wl MN_iiLiEiiisLiE a0c23 : Nat) : Int) < 0 by omega)]
end Go.TM
