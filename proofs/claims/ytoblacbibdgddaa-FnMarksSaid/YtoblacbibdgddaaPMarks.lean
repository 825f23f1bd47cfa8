/- A drawn token that is marked is never above what it was told. -/
import Derived.Test.YtoblacbibdgddaaPToken
set_option linter.unusedSimpArgs false
set_option linter.unusedVariables false
namespace Go.TM
open Go

theorem pick_ok (code : List (Int × Unit)) (at_ seed : Int) (l : List (Int × Unit)) (h : DrawAt code at_) (h0 : 0 < l.length) : ∃ v at' s', spec_l01PickInt code at_ seed l = some (v, code, at', s', ()) ∧ (v, ()) ∈ l ∧ DrawAt code at' := by
  obtain ⟨v, a1, s1, e1, v1, v2, d1⟩ := below_ok code at_ seed ((l.length : Nat) : Int) h (by omega)
  obtain ⟨k, rfl⟩ := Int.eq_ofNat_of_zero_le v1
  have hk : k < l.length := by omega
  unfold spec_l01PickInt
  simp only [e1, Option.bind_some, zero_le_nat, cond_true, toNat_nat, List.getElem?_eq_getElem hk]
  exact ⟨_, _, _, rfl, List.getElem_mem hk, d1⟩

theorem place_ok (code : List (Int × Unit)) (at_ seed n : Int) (h : DrawAt code at_) (hn : 0 < n) : ∃ v at' s', spec_l01Place code at_ seed n = some (v, code, at', s', ()) ∧ DrawAt code at' := by
  obtain ⟨b, a1, s1, e1, d1⟩ := once_ok code at_ seed 15 h (by omega)
  unfold spec_l01Place
  simp only [e1, Option.bind_some]
  cases b
  · obtain ⟨v, a2, s2, e2, _, _, d2⟩ := below_ok code a1 s1 n d1 hn
    simp only [e2, Option.bind_some, cond_false]
    exact ⟨_, _, _, rfl, d2⟩
  · obtain ⟨v, a2, s2, e2, _, d2⟩ := pick_ok code a1 s1 [((-1 : Int), ()), (n, ()), (IntKind.i64.wrap (n + (1 : Int)), ()), ((9223372036854775807 : Int), ()), ((-9223372036854775808 : Int), ())] d1 (by simp)
    simp only [e2, Option.bind_some, cond_true]
    exact ⟨_, _, _, rfl, d2⟩

/-- How the loop that draws what a token wants leaves. -/
def WantsOut {B : Type} (code : List (Int × Unit)) (c0 c1 c2 c3 c4 : Int) : Sum (List (Int × Unit) × Int × Int × Int × Int × Int × Int × Int × (List (Int × Unit)) × Int × Int × Int × Int × Int × (List (Int × Unit)) × Unit) B → Prop
  | .inl y => y.1 = code ∧ DrawAt code y.2.1 ∧ y.2.2.2.2.2.2.2.2.2 = (c0, c1, c2, c3, c4, y.2.2.2.2.2.2.2.2.2.2.2.2.2.2.1, ()) ∧ y.2.2.2.2.2.2.2.2.2.2.2.2.2.2.1.length ≤ 12
  | .inr _ => False

theorem wants_ok (code : List (Int × Unit)) (at_ seed c0 c1 c2 c3 c4 : Int) (h : DrawAt code at_) (h0 : 0 ≤ c2) (h1 : c2 < 12) :
    ∃ e, loopV spec_l05Token_r0 (code, at_, seed, (0 : Int), (0 : Int), (0 : Int), (0 : Int), (0 : Int), [], c0, c1, c2, c3, c4, [], (1 : Int), ()) = some e ∧ WantsOut code c0 c1 c2 c3 c4 e := by
  obtain ⟨m, rfl⟩ := Int.eq_ofNat_of_zero_le h0
  refine loop_inv (round := spec_l05Token_r0) m (fun k x => ∃ at' s' l, x = (code, at', s', (0 : Int), (0 : Int), (0 : Int), (0 : Int), (0 : Int), [], c0, c1, ((m : Nat) : Int), c3, c4, l, ((k + 1 : Nat) : Int), ()) ∧ DrawAt code at' ∧ l.length ≤ k) (WantsOut code c0 c1 ((m : Nat) : Int) c3 c4) ?_ ?_ ⟨at_, seed, [], rfl, h, Nat.le_refl _⟩
  · rintro x ⟨at', s', l, rfl, hd, hl⟩
    refine ⟨.inl (code, at', s', (0 : Int), (0 : Int), (0 : Int), (0 : Int), (0 : Int), [], c0, c1, ((m : Nat) : Int), c3, c4, l, ()), ?_, rfl, hd, rfl, (by show l.length ≤ 12; omega)⟩
    simp only [spec_l05Token_r0, spec_l05Token_c0, dec_false (show ¬ ((m + 1 : Nat) : Int) ≤ ((m : Nat) : Int) by omega), cond_false]
  · rintro k x hk ⟨at', s', l, rfl, hd, hl⟩
    obtain ⟨b, a1, s1, e1, d1⟩ := once_ok code at' s' 5 hd (by omega)
    simp only [spec_l05Token_r0, spec_l05Token_c0, dec_true (show ((k + 1 : Nat) : Int) ≤ ((m : Nat) : Int) by omega), cond_true, e1, Option.bind_some, succ_wrap (show k + 1 < 4611686018427387904 by omega)]
    cases b
    · exact .inr ⟨_, rfl, a1, s1, l, rfl, d1, by omega⟩
    · rw [ble_true (show (l.length + 1) * 8 ≤ lim by unfold lim; omega)]
      exact .inr ⟨_, rfl, a1, s1, l ++ [(((k + 1 : Nat) : Int), ())], rfl, d1, by simp; omega⟩

/-- A drawn token. -/
def TokDrawn (code : List (Int × Unit)) (o : Option (Int × Int × Int × Int × Int × (List (Int × Unit)) × (List (Int × Unit)) × Int × Int × Unit)) (n : Nat) : Prop :=
  ∃ t0 t1 t2 t3 t4 xs at' s', o = some (t0, t1, t2, t3, t4, xs, code, at', s', ()) ∧ DrawAt code at' ∧ xs.length ≤ n

theorem tokdraw_ok (code : List (Int × Unit)) (at_ seed : Int) (h : DrawAt code at_) : TokDrawn code (spec_l05Token code at_ seed) 12 := by
  obtain ⟨v1, a1, s1, e1, p1, q1, d1⟩ := below_ok code at_ seed 3 h (by omega)
  obtain ⟨v2, a2, s2, e2, p2, q2, d2⟩ := below_ok code a1 s1 9 d1 (by omega)
  obtain ⟨v3, a3, s3, e3, p3, q3, d3⟩ := below_ok code a2 s2 12 d2 (by omega)
  obtain ⟨v4, a4, s4, e4, p4, q4, d4⟩ := below_ok code a3 s3 (v3 + 1) d3 (by omega)
  unfold spec_l05Token
  simp only [e1, e2, e3, Option.bind_some, wrap_id (show -9223372036854775808 ≤ v3 + 1 by omega) (show v3 + 1 < 9223372036854775808 by omega), e4, wrap_id (show -9223372036854775808 ≤ 1 + v1 by omega) (show 1 + v1 < 9223372036854775808 by omega), wrap_id (show -9223372036854775808 ≤ 1 + v2 by omega) (show 1 + v2 < 9223372036854775808 by omega)]
  have done : ∀ (c4 a s : Int), DrawAt code a → TokDrawn code (outK (loopV spec_l05Token_r0 (code, a, s, (0 : Int), (0 : Int), (0 : Int), (0 : Int), (0 : Int), [], 1 + v1, 1 + v2, v3, v4, c4, [], (1 : Int), ())) (fun y6 =>
      some (y6.2.2.2.2.2.2.2.2.2.1, y6.2.2.2.2.2.2.2.2.2.2.1, y6.2.2.2.2.2.2.2.2.2.2.2.1, y6.2.2.2.2.2.2.2.2.2.2.2.2.1, y6.2.2.2.2.2.2.2.2.2.2.2.2.2.1, y6.2.2.2.2.2.2.2.2.2.2.2.2.2.2.1, y6.1, y6.2.1, y6.2.2.1, ())) (fun y7 =>
      none)) 12 := by
    intro c4 a s hd
    obtain ⟨e, he, hq⟩ := wants_ok code a s (1 + v1) (1 + v2) v3 v4 c4 hd p3 q3
    rw [he]
    cases e with
    | inr e => exact hq.elim
    | inl e =>
      obtain ⟨k1, k2, k3, k4⟩ := hq
      obtain ⟨y1, y2, y3, y4, y5, y6, y7, y8, y9, y10⟩ := e
      simp only at k1 k2 k3 k4
      subst k1
      exact ⟨_, _, _, _, _, _, _, _, rfl, k2, k4⟩
  cases decide (v4 < v3)
  · obtain ⟨b, a5, s5, e5, d5⟩ := once_ok code a4 s4 6 d4 (by omega)
    simp only [e5, Option.bind_some, cond_false]
    cases b
    · exact done _ _ _ d5
    · obtain ⟨v6, a6, s6, e6, p6, q6, d6⟩ := below_ok code a5 s5 3 d5 (by omega)
      simp only [e6, Option.bind_some, cond_true]
      exact done _ _ _ d6
  · obtain ⟨v6, a6, s6, e6, p6, q6, d6⟩ := below_ok code a4 s4 3 d4 (by omega)
    simp only [e6, Option.bind_some, cond_true]
    exact done _ _ _ d6

theorem anytok_ok (code : List (Int × Unit)) (at_ seed : Int) (h : DrawAt code at_) : TokDrawn code (spec_l05AnyToken code at_ seed) 13 := by
  obtain ⟨t0, t1, t2, t3, t4, xs, a1, s1, e1, d1, l1⟩ := tokdraw_ok code at_ seed h
  obtain ⟨v2, a2, s2, e2, p2, q2, d2⟩ := below_ok code a1 s1 24 d1 (by omega)
  unfold spec_l05AnyToken
  simp only [e1, e2, Option.bind_some]
  have pick : ∀ l : List (Int × Unit), 0 < l.length → ∃ v at' s', spec_l01PickInt code a2 s2 l = some (v, code, at', s', ()) ∧ (v, ()) ∈ l ∧ DrawAt code at' := fun l hl => pick_ok code a2 s2 l d2 hl
  cases decide (v2 = 0)
  case true =>
    obtain ⟨v, a3, s3, e3, _, d3⟩ := pick [((0 : Int), ()), ((9 : Int), ()), ((10 : Int), ())] (by simp)
    simp only [e3, Option.bind_some, cond_true]
    exact ⟨_, _, _, _, _, _, _, _, rfl, d3, by omega⟩
  cases decide (v2 = 1)
  case true =>
    obtain ⟨v, a3, s3, e3, _, d3⟩ := pick [((0 : Int), ()), ((-1 : Int), ()), ((1000000000 : Int), ()), ((1000000001 : Int), ())] (by simp)
    simp only [e3, Option.bind_some, cond_true]
    exact ⟨_, _, _, _, _, _, _, _, rfl, d3, by omega⟩
  cases decide (v2 = 2)
  case true =>
    obtain ⟨v, a3, s3, e3, _, d3⟩ := pick [((-1 : Int), ()), ((60 : Int), ()), ((61 : Int), ())] (by simp)
    simp only [e3, Option.bind_some, cond_true]
    exact ⟨_, _, _, _, _, _, _, _, rfl, d3, by omega⟩
  cases decide (v2 = 3)
  case true =>
    obtain ⟨v, a3, s3, e3, _, d3⟩ := pick [((-1 : Int), ()), (t2, ()), (IntKind.i64.wrap (t2 + (1 : Int)), ())] (by simp)
    simp only [e3, Option.bind_some, cond_true]
    exact ⟨_, _, _, _, _, _, _, _, rfl, d3, by omega⟩
  cases decide (v2 = 4)
  case true =>
    obtain ⟨v, a3, s3, e3, _, d3⟩ := pick [((-1 : Int), ()), ((5 : Int), ()), ((6 : Int), ())] (by simp)
    simp only [e3, Option.bind_some, cond_true]
    exact ⟨_, _, _, _, _, _, _, _, rfl, d3, by omega⟩
  cases decide (v2 = 5)
  case true =>
    obtain ⟨v, a3, s3, e3, _, d3⟩ := pick [((0 : Int), ()), ((1 : Int), ()), (t2, ()), (IntKind.i64.wrap (t2 + (1 : Int)), ())] (by simp)
    simp only [e3, Option.bind_some, cond_true, ble_true (show (xs.length + 1) * 8 ≤ lim by unfold lim; omega)]
    exact ⟨_, _, _, _, _, _, _, _, rfl, d3, by simp; omega⟩
  exact ⟨_, _, _, _, _, _, _, _, rfl, d2, by omega⟩

/-- What a right token is, part by part. -/
theorem tokok_eq (c2 : Int) (xs : List (Int × Unit)) (h : xs.length ≤ 1048576) : ∃ w : Bool, ∀ c0 c1 c3 c4 : Int, spec_TokenOk c0 c1 c2 c3 c4 xs = some ((decide (1 ≤ c0) && decide (c0 ≤ 9)) && ((decide (1 ≤ c1) && decide (c1 ≤ 1000000000)) && ((decide (0 ≤ c3) && decide (c3 ≤ c2)) && ((decide (0 ≤ c4) && decide (c4 ≤ 5)) && w))), ()) := by
  have key : ∀ c0 c1 c3 c4 : Int, ∃ e f, loopV spec_TokenOk_r0 (c0, c1, c2, c3, c4, xs, (0 : Int), ()) = some e ∧ loopV spec_TokenOk_r0 (1, 1, c2, 0, 0, xs, (0 : Int), ()) = some f ∧ e = f := by
    intro c0 c1 c3 c4
    refine loop_two xs.length (fun k x y => x = (c0, c1, c2, c3, c4, xs, ((k : Nat) : Int), ()) ∧ y = (1, 1, c2, 0, 0, xs, ((k : Nat) : Int), ())) Eq ?_ ⟨rfl, rfl⟩
    rintro k x y hk ⟨rfl, rfl⟩
    by_cases hlt : k < xs.length
    · simp only [spec_TokenOk_r0, spec_TokenOk_c0, lt_nat_true hlt, zero_le_nat, cond_true, toNat_nat, List.getElem?_eq_getElem hlt, Option.bind_some, in_eq, succ_wrap (show k < 4611686018427387904 by omega)]
      cases (decide (1 ≤ xs[k].1) && decide (xs[k].1 ≤ c2))
      · exact .inl ⟨.inr (false, ()), .inr (false, ()), rfl, rfl, rfl⟩
      · by_cases h0 : 0 < k
        · have hp : k - 1 < xs.length := by omega
          rw [pred_wrap h0 (by omega)]
          simp only [dec_true (show (0 : Int) < ((k : Nat) : Int) by omega), Bool.not_true, cond_false, cond_true, zero_le_nat, toNat_nat, List.getElem?_eq_getElem hp, Option.bind_some]
          cases decide (xs[k].1 ≤ xs[k - 1].1)
          · exact .inr ⟨hlt, _, _, rfl, rfl, rfl, rfl⟩
          · exact .inl ⟨.inr (false, ()), .inr (false, ()), rfl, rfl, rfl⟩
        · have : k = 0 := by omega
          subst this
          simp only [dec_false (show ¬ (0 : Int) < ((0 : Nat) : Int) by omega), Bool.not_true, cond_false]
          exact .inr ⟨hlt, _, _, rfl, rfl, rfl, rfl⟩
    · have : k = xs.length := by omega
      subst this
      exact .inl ⟨.inl (), .inl (), by simp only [spec_TokenOk_r0, spec_TokenOk_c0, lt_nat_irr, cond_false], by simp only [spec_TokenOk_r0, spec_TokenOk_c0, lt_nat_irr, cond_false], rfl⟩
  obtain ⟨_, e, _, he, _⟩ := key 1 1 0 0
  have all : ∀ c0 c1 c3 c4 : Int, loopV spec_TokenOk_r0 (c0, c1, c2, c3, c4, xs, (0 : Int), ()) = some e := by
    intro c0 c1 c3 c4
    obtain ⟨e1, f1, g1, g2, g3⟩ := key c0 c1 c3 c4
    rw [he] at g2
    cases g2
    rw [g1, g3]
  refine ⟨(decide (0 ≤ c2) && decide (c2 ≤ 60)) && (!decide ((20 : Int) < ((List.length xs : Nat) : Int)) && (match e with | .inl _ => true | .inr b => b.1)), fun c0 c1 c3 c4 => ?_⟩
  unfold spec_TokenOk
  simp only [in_eq, Option.bind_some, all]
  cases (decide (1 ≤ c0) && decide (c0 ≤ 9))
  · rfl
  cases (decide (1 ≤ c1) && decide (c1 ≤ 1000000000))
  · rfl
  cases (decide (0 ≤ c2) && decide (c2 ≤ 60))
  · simp
  cases (decide (0 ≤ c3) && decide (c3 ≤ c2))
  · rfl
  cases (decide (0 ≤ c4) && decide (c4 ≤ 5))
  · rfl
  cases decide ((20 : Int) < ((List.length xs : Nat) : Int))
  · cases e <;> rfl
  · rfl

/-- What marking does to a token. -/
theorem mark_val (c0 c1 c2 c3 c4 : Int) (xs : List (Int × Unit)) (d a : Int) (h : xs.length ≤ 1048576) {b : Bool} (hb : spec_TokenOk c0 c1 c2 c3 c4 xs = some (b, ())) :
    ∃ t3 t4, spec_Mark c0 c1 c2 c3 c4 xs d a = some (c0, c1, c2, t3, t4, xs, ()) ∧ impl_Mark c0 c1 c2 c3 c4 xs d a = some (c0, c1, c2, t3, t4, xs, ()) ∧
      (b = false ∨ d < 1 ∨ 5 < d ∨ a < 0 → t3 = c3 ∧ t4 = c4) ∧ (b = true → 1 ≤ d → d ≤ 5 → 0 ≤ a → 0 ≤ c3 → c3 ≤ c2 → 0 ≤ t3 ∧ t3 ≤ c2 ∧ t3 ≤ a ∧ (t3 ≤ c3 ∨ c4 = d) ∧ (t4 = c4 ∨ t4 = d ∨ (t4 = 0 ∧ c4 = d))) := by
  obtain ⟨b', h1, h2, _⟩ := token_same c0 c1 c2 c3 c4 xs h
  rw [hb] at h1
  obtain rfl : b = b' := by injection h1 with h1; injection h1
  obtain ⟨h3, h4⟩ := copyToken_eq c0 c1 c2 c3 c4 xs h
  unfold spec_Mark impl_Mark
  simp only [Option.bind_some, hb, h2, h3, h4, in_eq, daemon_eq]
  cases b
  · have : ∀ t3 t4 : Int, t3 = c3 → t4 = c4 → (false = false ∨ d < 1 ∨ 5 < d ∨ a < 0 → t3 = c3 ∧ t4 = c4) ∧ (false = true → 1 ≤ d → d ≤ 5 → 0 ≤ a → 0 ≤ c3 → c3 ≤ c2 → 0 ≤ t3 ∧ t3 ≤ c2 ∧ t3 ≤ a ∧ (t3 ≤ c3 ∨ c4 = d) ∧ (t4 = c4 ∨ t4 = d ∨ (t4 = 0 ∧ c4 = d))) :=
      fun t3 t4 e1 e2 => ⟨fun _ => ⟨e1, e2⟩, fun h => by cases h⟩
    cases (decide (1 ≤ d) && decide (d ≤ 5))
    · exact ⟨_, _, rfl, rfl, this _ _ rfl rfl⟩
    cases decide (a < 0)
    · exact ⟨_, _, rfl, rfl, this _ _ rfl rfl⟩
    · exact ⟨_, _, rfl, rfl, this _ _ rfl rfl⟩
  by_cases hd : 1 ≤ d ∧ d ≤ 5
  · rw [dec_true hd.1, dec_true hd.2]
    by_cases ha : a < 0
    · rw [dec_true ha]
      exact ⟨_, _, rfl, rfl, fun _ => ⟨rfl, rfl⟩, fun _ _ _ h => by omega⟩
    rw [dec_false ha]
    have no : ∀ {A : Prop}, (true = false ∨ d < 1 ∨ 5 < d ∨ a < 0) → A := by
      rintro A (h | h | h | h)
      · cases h
      · omega
      · omega
      · omega
    by_cases h5 : a < c3
    · rw [dec_true h5]
      exact ⟨_, _, rfl, rfl, no, fun _ _ _ _ _ _ => ⟨by omega, by omega, by omega, .inl (by omega), .inr (.inl rfl)⟩⟩
    rw [dec_false h5]
    by_cases h6 : c4 = d
    · rw [dec_true h6]
      by_cases h7 : c2 < a
      · rw [dec_true h7, if_pos h7, dec_true (show c2 = c2 from rfl)]
        exact ⟨_, _, rfl, rfl, no, fun _ _ _ _ _ _ => ⟨by omega, by omega, by omega, .inr h6, .inr (.inr ⟨rfl, h6⟩)⟩⟩
      · rw [dec_false h7, if_neg h7]
        by_cases h8 : a = c2
        · rw [dec_true h8]
          exact ⟨_, _, rfl, rfl, no, fun _ _ _ _ _ _ => ⟨by omega, by omega, by omega, .inr h6, .inr (.inr ⟨rfl, h6⟩)⟩⟩
        · rw [dec_false h8]
          exact ⟨_, _, rfl, rfl, no, fun _ _ _ _ _ _ => ⟨by omega, by omega, by omega, .inr h6, .inl rfl⟩⟩
    · rw [dec_false h6]
      exact ⟨_, _, rfl, rfl, no, fun _ _ _ _ _ _ => ⟨by omega, by omega, by omega, .inl (by omega), .inl rfl⟩⟩
  · have e : (decide (1 ≤ d) && decide (d ≤ 5)) = false := by
      cases hq : (decide (1 ≤ d) && decide (d ≤ 5))
      · rfl
      · rw [Bool.and_eq_true, decide_eq_true_eq, decide_eq_true_eq] at hq
        exact absurd hq hd
    rw [e]
    exact ⟨_, _, rfl, rfl, fun _ => ⟨rfl, rfl⟩, fun _ h1 h2 => absurd ⟨h1, h2⟩ hd⟩

theorem marks_law (code : List (Int × Unit)) : laws_FnMarks code = some (true, ()) := by
  unfold laws_FnMarks laws_big
  simp only [Option.bind_some]
  by_cases hbig : (1048576 : Int) < ((List.length code : Nat) : Int)
  · rw [dec_true hbig]; rfl
  rw [dec_false hbig]
  obtain ⟨s0, e0⟩ := new_ok code (by omega)
  have d0 : DrawAt code 0 := ⟨by omega, by omega, by omega⟩
  obtain ⟨t0, t1, t2, t3, t4, xs, a1, s1, e1, d1, l1⟩ := anytok_ok code 0 s0 d0
  obtain ⟨v2, a2, s2, e2, d2⟩ := place_ok code a1 s1 6 d1 (by omega)
  obtain ⟨b3, a3, s3, e3, d3⟩ := once_ok code a2 s2 3 d2 (by omega)
  obtain ⟨v4, a4, s4, e4, d4⟩ := place_ok code a3 s3 14 d3 (by omega)
  obtain ⟨d, a, hdraw⟩ : ∃ d a, spec_DrawMark code = some (t0, t1, t2, t3, t4, xs, d, a, ()) := by
    unfold spec_DrawMark
    simp only [e0, e1, e2, e3, e4, Option.bind_some]
    cases b3
    · exact ⟨_, _, rfl⟩
    · exact ⟨_, _, rfl⟩
  obtain ⟨w, hw⟩ := tokok_eq t2 xs (by omega)
  obtain ⟨u3, u4, m1, m2, m3, m4⟩ := mark_val t0 t1 t2 t3 t4 xs d a (by omega) (hw t0 t1 t3 t4)
  obtain ⟨b', k1, k2, _⟩ := token_same t0 t1 t2 u3 u4 xs (by omega)
  simp only [cond_false, hdraw, Option.bind_some, m1, m2, decide_true, Bool.not_true, hw t0 t1 t3 t4, k2]
  cases hb : ((decide (1 ≤ t0) && decide (t0 ≤ 9)) && ((decide (1 ≤ t1) && decide (t1 ≤ 1000000000)) && ((decide (0 ≤ t3) && decide (t3 ≤ t2)) && ((decide (0 ≤ t4) && decide (t4 ≤ 5)) && w))))
  · obtain ⟨q1, q2⟩ := m3 (.inl hb)
    rw [dec_true q1, dec_true q2]
    rfl
  simp only [Bool.not_true, cond_false]
  by_cases h1 : d < 1
  · obtain ⟨q1, q2⟩ := m3 (.inr (.inl h1))
    rw [dec_true h1, dec_true q1, dec_true q2]
    rfl
  rw [dec_false h1]
  by_cases h2 : 5 < d
  · obtain ⟨q1, q2⟩ := m3 (.inr (.inr (.inl h2)))
    rw [dec_true h2, dec_true q1, dec_true q2]
    rfl
  rw [dec_false h2]
  by_cases h3 : a < 0
  · obtain ⟨q1, q2⟩ := m3 (.inr (.inr (.inr h3)))
    rw [dec_true h3, dec_true q1, dec_true q2]
    rfl
  rw [dec_false h3]
  rw [Bool.and_eq_true, Bool.and_eq_true, Bool.and_eq_true, Bool.and_eq_true, Bool.and_eq_true, Bool.and_eq_true, Bool.and_eq_true, Bool.and_eq_true] at hb
  simp only [decide_eq_true_eq] at hb
  obtain ⟨⟨w1, w2⟩, ⟨w3, w4⟩, ⟨w5, w6⟩, ⟨w7, w8⟩, w9⟩ := hb
  obtain ⟨g1, g2, g3, g4, g5⟩ := m4 (by simp [w1, w2, w3, w4, w5, w6, w7, w8, w9]) (by omega) (by omega) (by omega) w5 w6
  have g6 : 0 ≤ u4 ∧ u4 ≤ 5 := by
    rcases g5 with rfl | rfl | ⟨rfl, _⟩ <;> omega
  have hb' : b' = true := by
    have := hw t0 t1 u3 u4
    rw [k1] at this
    injection this with this
    injection this with this
    rw [this]
    simp [w1, w2, w3, w4, g1, g2, g6.1, g6.2, w9]
  rw [hb', dec_true g3]
  simp only [cond_false, cond_true]
  have last : (bif decide (u4 = t4) then some (true, ()) else bif decide (u4 = d) then some (true, ()) else bif decide (u4 = (0 : Int)) then some (decide (t4 = d), ()) else some (false, ())) = (some (true, ()) : Option (Bool × Unit)) := by
    rcases g5 with g5 | g5 | ⟨g5, g7⟩
    · rw [dec_true g5]; rfl
    · rw [dec_true g5]
      cases decide (u4 = t4) <;> rfl
    · rw [dec_true g5, dec_true g7]
      cases decide (u4 = t4)
      · cases decide (u4 = d) <;> rfl
      · rfl
  cases hc : decide (u3 ≤ t3)
  · have : t4 = d := by
      rcases g4 with g4 | g4
      · rw [dec_true g4] at hc; cases hc
      · exact g4
    rw [dec_true this] at last ⊢
    exact last
  · exact last
end Go.TM
