/- Tokens, of the program and of the reference; marks in lists of numbers. -/
import Derived.Test.YtoblacbibdgddaaPNRings
set_option linter.unusedSimpArgs false
set_option linter.unusedVariables false
namespace Go.TM
open Go

/-! ### Marks -/
def MarkedI (l : List (Int × Unit)) (a : Nat) : Prop := ∀ j, j < l.length → l[j]? = some (((a + j : Nat) : Int), ())
def MarkIOut (n a : Nat) {B : Type} : Sum ((List (Int × Unit)) × Int × Unit) B → Prop
  | .inl y => y.2.1 = ((a + n : Nat) : Int) ∧ y.1.length = n ∧ MarkedI y.1 a
  | .inr _ => False

theorem markIntS_ok (xs : List (Int × Unit)) (a : Nat) (h : xs.length ≤ 1048576) (ha : a ≤ 67108864) : ∃ l, laws_markIntS xs ((a : Nat) : Int) = some (((a + xs.length : Nat) : Int), l, ()) ∧ l.length = xs.length ∧ MarkedI l a := by
  unfold laws_markIntS
  obtain ⟨e, he, hq⟩ := loop_inv (round := laws_markIntS_r0) (x := (xs, ((a : Nat) : Int), ((0 : Nat) : Int), ())) xs.length (fun k x => ∃ l : List (Int × Unit), x = (l, ((a + k : Nat) : Int), ((k : Nat) : Int), ()) ∧ l.length = xs.length ∧ ∀ j, j < k → l[j]? = some (((a + j : Nat) : Int), ()))
    (MarkIOut xs.length a) (by
    rintro x ⟨l, rfl, hl, hj⟩
    refine ⟨.inl (l, ((a + xs.length : Nat) : Int), ()), ?_, rfl, hl, fun j (hj' : j < l.length) => hj j (by omega)⟩
    simp only [laws_markIntS_r0, laws_markIntS_c0, hl, lt_nat_irr, cond_false]) (by
    rintro k x hk ⟨l, rfl, hl, hj⟩
    have hkl : k < l.length := by omega
    refine .inr ⟨_, ?_, l.set k (((a + k : Nat) : Int), ()), rfl, by simp [hl], fun j hj' => ?_⟩
    · have e1 : IntKind.i64.wrap (((a + k : Nat) : Int) + (1 : Int)) = ((a + (k + 1) : Nat) : Int) := by rw [wrap_id] <;> omega
      simp only [laws_markIntS_r0, laws_markIntS_c0, lt_nat_true hkl, zero_le_nat, cond_true, toNat_nat, blt_true hkl, List.getElem?_eq_getElem hkl, Option.bind_some, e1, succ_wrap (show k < 4611686018427387904 by omega)]
    · rw [List.getElem?_set]
      by_cases hjk : k = j
      · subst hjk
        rw [if_pos rfl, if_pos hkl]
      · rw [if_neg hjk]
        exact hj j (by omega)) ⟨xs, rfl, rfl, fun j hj => by omega⟩
  rw [show (0 : Int) = ((0 : Nat) : Int) from rfl, he]
  cases e with
  | inr e => exact hq.elim
  | inl e =>
    obtain ⟨q1, q2, q3⟩ := hq
    exact ⟨e.1, by rw [← q1]; rfl, q2, q3⟩

theorem heldIntS_ok (l : List (Int × Unit)) (a : Nat) (h : l.length ≤ 1048576) (ha : a ≤ 67108864) (hm : MarkedI l a) : laws_heldIntS l ((a : Nat) : Int) = some (((a + l.length : Nat) : Int), ()) := by
  have hl := loop_run (round := laws_heldIntS_r0) (e := .inl (((a + l.length : Nat) : Int), ())) l.length (fun k => (l, ((a + k : Nat) : Int), ((k : Nat) : Int), ())) (by
    simp only [laws_heldIntS_r0, laws_heldIntS_c0, lt_nat_irr, cond_false]) (fun k hk => by
    have e1 : IntKind.i64.wrap (((a + k : Nat) : Int) + (1 : Int)) = ((a + (k + 1) : Nat) : Int) := by rw [wrap_id] <;> omega
    simp only [laws_heldIntS_r0, laws_heldIntS_c0, lt_nat_true hk, zero_le_nat, cond_true, toNat_nat, hm k hk, Option.bind_some, decide_true, Bool.not_true, cond_false, e1, succ_wrap (show k < 4611686018427387904 by omega)])
  unfold laws_heldIntS
  have hl : loopV laws_heldIntS_r0 (l, ((a : Nat) : Int), (0 : Int), ()) = _ := hl
  rw [hl]
  rfl

theorem markRing_ok (c : Int) (xs : List (Int × Unit)) (a : Nat) (h : xs.length ≤ 1048576) (ha : a ≤ 67108864) : ∃ l, laws_markRing c xs ((a : Nat) : Int) = some (((a + xs.length : Nat) : Int), l, ()) ∧ l.length = xs.length ∧ MarkedI l a := by
  obtain ⟨l, h1, h2, h3⟩ := markIntS_ok xs a h ha
  refine ⟨l, ?_, h2, h3⟩
  unfold laws_markRing
  rw [h1]
  rfl
theorem markToken_ok (c0 c1 c2 c3 c4 : Int) (xs : List (Int × Unit)) (a : Nat) (h : xs.length ≤ 1048576) (ha : a ≤ 67108864) : ∃ l, laws_markToken c0 c1 c2 c3 c4 xs ((a : Nat) : Int) = some (((a + xs.length : Nat) : Int), l, ()) ∧ l.length = xs.length ∧ MarkedI l a := by
  obtain ⟨l, h1, h2, h3⟩ := markIntS_ok xs a h ha
  refine ⟨l, ?_, h2, h3⟩
  unfold laws_markToken
  rw [h1]
  rfl
theorem heldToken_ok (c0 c1 c2 c3 c4 : Int) (l : List (Int × Unit)) (a : Nat) (h : l.length ≤ 1048576) (ha : a ≤ 67108864) (hm : MarkedI l a) : laws_heldToken c0 c1 c2 c3 c4 l ((a : Nat) : Int) = some (((a + l.length : Nat) : Int), ()) := by
  unfold laws_heldToken
  rw [heldIntS_ok l a h ha hm]
  simp only [Option.bind_some, dec_false (show ¬ ((a + l.length : Nat) : Int) < 0 by omega), cond_false]

/-! ### Right tokens -/
def TokOut (t : Int × Int × Int × Int × Int × (List (Int × Unit)) × Unit) : Sum Unit (Bool × Unit) → Sum (Int × Int × Int × Int × Int × (List (Int × Unit)) × Unit) (Bool × Unit) → Prop
  | .inl _, .inl z => z = t
  | .inr a, .inr b => a.1 = false ∧ b.1 = false
  | _, _ => False

theorem token_loop (c0 c1 c2 c3 c4 : Int) (xs : List (Int × Unit)) (h : xs.length ≤ 1048576) :
    ∃ e f, loopV spec_TokenOk_r0 (c0, c1, c2, c3, c4, xs, (0 : Int), ()) = some e ∧ loopV impl_TokenOk_r0 (c0, c1, c2, c3, c4, xs, xs, ((List.length xs : Nat) : Int), (0 : Int), ()) = some f ∧ TokOut (c0, c1, c2, c3, c4, xs, ()) e f := by
  refine loop_two xs.length (fun k x y => x = (c0, c1, c2, c3, c4, xs, ((k : Nat) : Int), ()) ∧ y = (c0, c1, c2, c3, c4, xs, xs, ((List.length xs : Nat) : Int), ((k : Nat) : Int), ())) (TokOut (c0, c1, c2, c3, c4, xs, ())) ?_ ⟨rfl, rfl⟩
  rintro k x y hk ⟨rfl, rfl⟩
  by_cases hlt : k < xs.length
  · simp only [spec_TokenOk_r0, spec_TokenOk_c0, impl_TokenOk_r0, impl_TokenOk_c0, lt_nat_true hlt, zero_le_nat, cond_true, toNat_nat, List.getElem?_eq_getElem hlt, Option.bind_some, in_eq, in_eq', succ_wrap (show k < 4611686018427387904 by omega)]
    cases (decide (1 ≤ xs[k].1) && decide (xs[k].1 ≤ c2))
    · exact .inl ⟨.inr (false, ()), .inr (false, ()), rfl, rfl, rfl, rfl⟩
    · by_cases h0 : 0 < k
      · have hp : k - 1 < xs.length := by omega
        rw [pred_wrap h0 (by omega)]
        simp only [dec_true (show (0 : Int) < ((k : Nat) : Int) by omega), Bool.not_true, cond_false, cond_true, zero_le_nat, toNat_nat, List.getElem?_eq_getElem hp, Option.bind_some]
        cases decide (xs[k].1 ≤ xs[k - 1].1)
        · exact .inr ⟨hlt, _, _, rfl, rfl, rfl, rfl⟩
        · exact .inl ⟨.inr (false, ()), .inr (false, ()), rfl, rfl, rfl, rfl⟩
      · have : k = 0 := by omega
        subst this
        simp only [dec_false (show ¬ (0 : Int) < ((0 : Nat) : Int) by omega), Bool.not_true, cond_false]
        exact .inr ⟨hlt, _, _, rfl, rfl, rfl, rfl⟩
  · have : k = xs.length := by omega
    subst this
    exact .inl ⟨.inl (), .inl (c0, c1, c2, c3, c4, xs, ()), by simp only [spec_TokenOk_r0, spec_TokenOk_c0, lt_nat_irr, cond_false], by simp only [impl_TokenOk_r0, impl_TokenOk_c0, lt_nat_irr, cond_false], rfl⟩

theorem token_same (c0 c1 c2 c3 c4 : Int) (xs : List (Int × Unit)) (h : xs.length ≤ 1048576) : ∃ b, spec_TokenOk c0 c1 c2 c3 c4 xs = some (b, ()) ∧ impl_TokenOk c0 c1 c2 c3 c4 xs = some (b, ()) ∧ (b = true → 0 ≤ c2 ∧ c2 ≤ 60 ∧ 0 ≤ c3 ∧ c3 ≤ c2 ∧ xs.length ≤ 20 ∧ (∀ y ∈ [c0, c1], 1 ≤ y)) := by
  obtain ⟨e, f, h1, h2, h3⟩ := token_loop c0 c1 c2 c3 c4 xs h
  unfold spec_TokenOk impl_TokenOk
  simp only [in_eq, in_eq', Option.bind_some, h1, h2]
  cases q0 : (decide (1 ≤ c0) && decide (c0 ≤ 9))
  · exact ⟨false, rfl, rfl, fun h => by cases h⟩
  cases q1 : (decide (1 ≤ c1) && decide (c1 ≤ 1000000000))
  · exact ⟨false, rfl, rfl, fun h => by cases h⟩
  cases q2 : (decide (0 ≤ c2) && decide (c2 ≤ 60))
  · exact ⟨false, rfl, rfl, fun h => by cases h⟩
  cases e with
  | inl e => cases f with
    | inl f =>
      have h3 : f = (c0, c1, c2, c3, c4, xs, ()) := h3
      subst h3
      simp only [outK, Option.bind_some, in_eq', Bool.not_true, cond_false]
      cases q3 : (decide (0 ≤ c3) && decide (c3 ≤ c2))
      · exact ⟨false, rfl, rfl, fun h => by cases h⟩
      cases (decide (0 ≤ c4) && decide (c4 ≤ 5))
      · exact ⟨false, rfl, rfl, fun h => by cases h⟩
      by_cases hl : ((List.length xs : Nat) : Int) ≤ 20
      · rw [dec_true hl, dec_false (show ¬ (20 : Int) < ((List.length xs : Nat) : Int) by omega)]
        refine ⟨true, rfl, rfl, fun _ => ?_⟩
        rw [Bool.and_eq_true, decide_eq_true_eq, decide_eq_true_eq] at q0 q1 q2 q3
        refine ⟨q2.1, q2.2, q3.1, q3.2, by omega, fun y hy => ?_⟩
        rcases List.mem_cons.1 hy with rfl | hy
        · exact q0.1
        · rcases List.mem_cons.1 hy with rfl | hy
          · exact q1.1
          · cases hy
      · rw [dec_false hl, dec_true (show (20 : Int) < ((List.length xs : Nat) : Int) by omega)]
        exact ⟨false, rfl, rfl, fun h => by cases h⟩
    | inr f => exact h3.elim
  | inr e => cases f with
    | inl f => exact h3.elim
    | inr f =>
      obtain ⟨e1, e2⟩ := (show e.1 = false ∧ f.1 = false from h3)
      refine ⟨false, ?_, by rw [← e2]; rfl, fun h => by cases h⟩
      cases (decide (0 ≤ c3) && decide (c3 ≤ c2))
      · rfl
      cases (decide (0 ≤ c4) && decide (c4 ≤ 5))
      · rfl
      cases decide ((20 : Int) < ((List.length xs : Nat) : Int))
      · show some (e.1, ()) = some (false, ())
        rw [e1]
      · rfl

theorem clone_int (xs : List (Int × Unit)) (h : xs.length ≤ 1048576) : slices_Clone_int xs = some (xs, ()) := by
  unfold slices_Clone_int
  rw [ble_true (show (0 + xs.length) * 8 ≤ lim by unfold lim; omega)]
  rfl
theorem copyToken_eq (c0 c1 c2 c3 c4 : Int) (xs : List (Int × Unit)) (h : xs.length ≤ 1048576) : spec_l05CopyToken c0 c1 c2 c3 c4 xs = some (c0, c1, c2, c3, c4, xs, ()) ∧ impl_copyToken c0 c1 c2 c3 c4 xs = some (c0, c1, c2, c3, c4, xs, ()) := by
  constructor
  · unfold spec_l05CopyToken
    rw [ble_true (show (0 + xs.length) * 8 ≤ lim by unfold lim; omega)]
    rfl
  · unfold impl_copyToken
    rw [clone_int xs h]
    rfl

/-! ### A first token -/
theorem first_same (c : Int) (xs : List (Int × Unit)) (h : xs.length ≤ 1048576) : ∃ t0 t1 t2 t3 t4, spec_FirstToken c xs = some (t0, t1, t2, t3, t4, [], ()) ∧ impl_FirstToken c xs = some (t0, t1, t2, t3, t4, [], ()) := by
  obtain ⟨b, h1, h2, _⟩ := ring_same c xs h
  unfold spec_FirstToken impl_FirstToken
  simp only [Option.bind_some, h1, h2]
  cases b
  · exact ⟨_, _, _, _, _, rfl, rfl⟩
  · exact ⟨_, _, _, _, _, rfl, rfl⟩

theorem first_true (c : Int) (xs : List (Int × Unit)) (hz : Z_iLiE (c, xs, ())) : laws_FnExactFirstToken c xs = some (true, ()) := by
  obtain ⟨m, e1, l1, w1⟩ := sz_Ring c xs (left := 1048576) hz (by omega) (by omega)
  unfold laws_FnExactFirstToken
  rw [e1]
  simp only [Option.bind_some]
  by_cases hm : m < 0
  · rw [dec_true hm]; rfl
  · have w1 := w1 (by omega)
    have hs : W_iLiE (c, xs, ()) ≤ 1048576 := by omega
    have hl : List.length xs + wl W_i xs ≤ 1048576 := hs
    obtain ⟨t0, t1, t2, t3, t4, h1, h2⟩ := first_same c xs (by omega)
    have hne : W_iiiiiLiE (t0, t1, t2, t3, t4, [], ()) ≤ 1048576 := by show 0 + 0 ≤ 1048576; omega
    obtain ⟨l, k1, k2, k3⟩ := markRing_ok c xs 1 (by omega) (by omega)
    obtain ⟨g, k4, k5, k6⟩ := markToken_ok t0 t1 t2 t3 t4 [] 1 (by simp) (by omega)
    have k7 := heldToken_ok t0 t1 t2 t3 t4 g 1 (by rw [k5]; simp) (by omega) k6
    have k1 : laws_markRing c xs (1 : Int) = some (((1 + xs.length : Nat) : Int), l, ()) := k1
    have k4 : laws_markToken t0 t1 t2 t3 t4 [] (1 : Int) = some (((1 + ([] : List (Int × Unit)).length : Nat) : Int), g, ()) := k4
    have k7 : laws_heldToken t0 t1 t2 t3 t4 g (1 : Int) = some (((1 + g.length : Nat) : Int), ()) := k7
    rw [k5] at k7
    rw [dec_false hm]
    simp only [to_Ring c xs hs, cond_false, Option.bind_some, h1, h2, eq_Token t0 t1 t2 t3 t4 [] hne, Bool.not_true, eq_Ring c xs hs, k1, k4, k7, dec_false (show ¬ ((1 + xs.length : Nat) : Int) < 0 by omega), dec_false (show ¬ ((1 + ([] : List (Int × Unit)).length : Nat) : Int) < 0 by omega), decide_true]

/-! ### A token is marked -/
theorem mark_same (c0 c1 c2 c3 c4 : Int) (xs : List (Int × Unit)) (d a : Int) (h : xs.length ≤ 1048576) : ∃ t0 t1 t2 t3 t4, spec_Mark c0 c1 c2 c3 c4 xs d a = some (t0, t1, t2, t3, t4, xs, ()) ∧ impl_Mark c0 c1 c2 c3 c4 xs d a = some (t0, t1, t2, t3, t4, xs, ()) := by
  obtain ⟨b, h1, h2, _⟩ := token_same c0 c1 c2 c3 c4 xs h
  obtain ⟨h3, h4⟩ := copyToken_eq c0 c1 c2 c3 c4 xs h
  unfold spec_Mark impl_Mark
  simp only [Option.bind_some, h1, h2, h3, h4, in_eq, daemon_eq]
  cases b
  · cases (decide (1 ≤ d) && decide (d ≤ 5))
    · exact ⟨_, _, _, _, _, rfl, rfl⟩
    cases decide (a < 0)
    · exact ⟨_, _, _, _, _, rfl, rfl⟩
    · exact ⟨_, _, _, _, _, rfl, rfl⟩
  cases (decide (1 ≤ d) && decide (d ≤ 5))
  · exact ⟨_, _, _, _, _, rfl, rfl⟩
  cases decide (a < 0)
  · cases decide (a < c3)
    · by_cases h5 : c4 = d
      · rw [dec_true h5]
        by_cases h6 : c2 < a
        · rw [dec_true h6, if_pos h6, dec_true (show c2 = c2 from rfl)]
          exact ⟨_, _, _, _, _, rfl, rfl⟩
        · rw [dec_false h6, if_neg h6]
          by_cases h7 : a = c2
          · rw [dec_true h7]
            exact ⟨_, _, _, _, _, rfl, rfl⟩
          · rw [dec_false h7]
            exact ⟨_, _, _, _, _, rfl, rfl⟩
      · rw [dec_false h5]
        exact ⟨_, _, _, _, _, rfl, rfl⟩
    · exact ⟨_, _, _, _, _, rfl, rfl⟩
  · exact ⟨_, _, _, _, _, rfl, rfl⟩

theorem mark_true (c0 c1 c2 c3 c4 : Int) (xs : List (Int × Unit)) (d a : Int) (hz : Z_iiiiiLiE (c0, c1, c2, c3, c4, xs, ())) : laws_FnExactMark c0 c1 c2 c3 c4 xs d a = some (true, ()) := by
  obtain ⟨m, e1, l1, w1⟩ := sz_Token c0 c1 c2 c3 c4 xs (left := 1048576) hz (by omega) (by omega)
  unfold laws_FnExactMark
  rw [e1]
  simp only [Option.bind_some]
  by_cases hm : m < 0
  · rw [dec_true hm]; rfl
  · have w1 := w1 (by omega)
    have hs : W_iiiiiLiE (c0, c1, c2, c3, c4, xs, ()) ≤ 1048576 := by omega
    have hl : List.length xs + wl W_i xs ≤ 1048576 := hs
    obtain ⟨t0, t1, t2, t3, t4, h1, h2⟩ := mark_same c0 c1 c2 c3 c4 xs d a (by omega)
    have hne : W_iiiiiLiE (t0, t1, t2, t3, t4, xs, ()) ≤ 1048576 := hs
    obtain ⟨l, k1, k2, k3⟩ := markToken_ok c0 c1 c2 c3 c4 xs 1 (by omega) (by omega)
    obtain ⟨g, k4, k5, k6⟩ := markToken_ok t0 t1 t2 t3 t4 xs 1 (by omega) (by omega)
    have k7 := heldToken_ok t0 t1 t2 t3 t4 g 1 (by omega) (by omega) k6
    have k1 : laws_markToken c0 c1 c2 c3 c4 xs (1 : Int) = some (((1 + xs.length : Nat) : Int), l, ()) := k1
    have k4 : laws_markToken t0 t1 t2 t3 t4 xs (1 : Int) = some (((1 + xs.length : Nat) : Int), g, ()) := k4
    have k7 : laws_heldToken t0 t1 t2 t3 t4 g (1 : Int) = some (((1 + g.length : Nat) : Int), ()) := k7
    rw [k5] at k7
    rw [dec_false hm]
    simp only [to_Token c0 c1 c2 c3 c4 xs hs, cond_false, Option.bind_some, h1, h2, eq_Token t0 t1 t2 t3 t4 xs hne, Bool.not_true, eq_Token c0 c1 c2 c3 c4 xs hs, k1, k4, k7, dec_false (show ¬ ((1 + xs.length : Nat) : Int) < 0 by omega), decide_true]
end Go.TM
