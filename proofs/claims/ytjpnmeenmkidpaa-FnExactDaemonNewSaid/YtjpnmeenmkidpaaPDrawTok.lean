/- Drawn tokens. -/
import Derived.Test.YtjpnmeenmkidpaaPDrawP
set_option linter.unusedSimpArgs false
set_option linter.unusedVariables false
namespace Go.TM
open Go

/-- How the loop that draws what a token wants leaves. -/
def WantsOut {B : Type} (code : List (Int × Unit)) (c0 c1 c2 c3 c4 : Int) : Sum (List (Int × Unit) × Int × Int × Int × Int × Int × Int × Int × (List (Int × Unit)) × Int × Int × Int × Int × Int × (List (Int × Unit)) × Unit) B → Prop
  | .inl y => y.1 = code ∧ DrawAt code y.2.1 ∧ y.2.2.2.2.2.2.2.2.2 = (c0, c1, c2, c3, c4, y.2.2.2.2.2.2.2.2.2.2.2.2.2.2.1, ()) ∧ y.2.2.2.2.2.2.2.2.2.2.2.2.2.2.1.length ≤ 12
  | .inr _ => False

theorem wants_ok (code : List (Int × Unit)) (at_ seed c0 c1 c2 c3 c4 : Int) (h : DrawAt code at_) (h0 : 0 ≤ c2) (h1 : c2 < 12) :
    ∃ e, loopV spec_l05Token_r0 (code, at_, seed, (0 : Int), (0 : Int), (0 : Int), (0 : Int), (0 : Int), [], c0, c1, c2, c3, c4, [], (1 : Int), ()) = some e ∧ WantsOut code c0 c1 c2 c3 c4 e := by
  obtain ⟨m, rfl⟩ := Int.eq_ofNat_of_zero_le h0
  refine loop_inv (round := spec_l05Token_r0) m (fun k x => ∃ at' s' l, x = (code, at', s', (0 : Int), (0 : Int), (0 : Int), (0 : Int), (0 : Int), [], c0, c1, ((m : Nat) : Int), c3, c4, l, ((k + 1 : Nat) : Int), ()) ∧ DrawAt code at' ∧ l.length ≤ k) (WantsOut code c0 c1 ((m : Nat) : Int) c3 c4) ?_ ?_ ⟨at_, seed, [], rfl, h, Nat.le_refl _⟩
  · rintro x ⟨at', s', l, rfl, hd, hl⟩
    refine ⟨.inl (code, at', s', (0 : Int), (0 : Int), (0 : Int), (0 : Int), (0 : Int), [], c0, c1, ((m : Nat) : Int), c3, c4, l, ()), ?_, rfl, hd, rfl, (by show l.length ≤ 12; omega)⟩
    simp only [spec_l05Token_r0, spec_l05Token_c0, dec_false (show ¬ ((m + 1 : Nat) : Int) ≤ ((m : Nat) : Int) by omega), cond_false]
  · rintro k x hk ⟨at', s', l, rfl, hd, hl⟩
    obtain ⟨b, a1, s1, e1, d1⟩ := once_ok code at' s' 5 hd (by omega)
    simp only [spec_l05Token_r0, spec_l05Token_c0, dec_true (show ((k + 1 : Nat) : Int) ≤ ((m : Nat) : Int) by omega), cond_true, e1, Option.bind_some, succ_wrap (show k + 1 < 4611686018427387904 by omega)]
    cases b
    · exact .inr ⟨_, rfl, a1, s1, l, rfl, d1, by omega⟩
    · rw [ble_true (show (l.length + 1) * 8 ≤ lim by unfold lim; omega)]
      exact .inr ⟨_, rfl, a1, s1, l ++ [(((k + 1 : Nat) : Int), ())], rfl, d1, by simp; omega⟩

/-- A drawn token. -/
def TokDrawn (code : List (Int × Unit)) (o : Option (Int × Int × Int × Int × Int × (List (Int × Unit)) × (List (Int × Unit)) × Int × Int × Unit)) (n : Nat) : Prop :=
  ∃ t0 t1 t2 t3 t4 xs at' s', o = some (t0, t1, t2, t3, t4, xs, code, at', s', ()) ∧ DrawAt code at' ∧ xs.length ≤ n

theorem tokdraw_ok (code : List (Int × Unit)) (at_ seed : Int) (h : DrawAt code at_) : TokDrawn code (spec_l05Token code at_ seed) 12 := by
  obtain ⟨v1, a1, s1, e1, p1, q1, d1⟩ := below_ok code at_ seed 3 h (by omega)
  obtain ⟨v2, a2, s2, e2, p2, q2, d2⟩ := below_ok code a1 s1 9 d1 (by omega)
  obtain ⟨v3, a3, s3, e3, p3, q3, d3⟩ := below_ok code a2 s2 12 d2 (by omega)
  obtain ⟨v4, a4, s4, e4, p4, q4, d4⟩ := below_ok code a3 s3 (v3 + 1) d3 (by omega)
  unfold spec_l05Token
  simp only [e1, e2, e3, Option.bind_some, wrap_id (show -9223372036854775808 ≤ v3 + 1 by omega) (show v3 + 1 < 9223372036854775808 by omega), e4, wrap_id (show -9223372036854775808 ≤ 1 + v1 by omega) (show 1 + v1 < 9223372036854775808 by omega), wrap_id (show -9223372036854775808 ≤ 1 + v2 by omega) (show 1 + v2 < 9223372036854775808 by omega)]
  have done : ∀ (c4 a s : Int), DrawAt code a → TokDrawn code (outK (loopV spec_l05Token_r0 (code, a, s, (0 : Int), (0 : Int), (0 : Int), (0 : Int), (0 : Int), [], 1 + v1, 1 + v2, v3, v4, c4, [], (1 : Int), ())) (fun y6 =>
      some (y6.2.2.2.2.2.2.2.2.2.1, y6.2.2.2.2.2.2.2.2.2.2.1, y6.2.2.2.2.2.2.2.2.2.2.2.1, y6.2.2.2.2.2.2.2.2.2.2.2.2.1, y6.2.2.2.2.2.2.2.2.2.2.2.2.2.1, y6.2.2.2.2.2.2.2.2.2.2.2.2.2.2.1, y6.1, y6.2.1, y6.2.2.1, ())) (fun y7 =>
      none)) 12 := by
    intro c4 a s hd
    obtain ⟨e, he, hq⟩ := wants_ok code a s (1 + v1) (1 + v2) v3 v4 c4 hd p3 q3
    rw [he]
    cases e with
    | inr e => exact hq.elim
    | inl e =>
      obtain ⟨k1, k2, k3, k4⟩ := hq
      obtain ⟨y1, y2, y3, y4, y5, y6, y7, y8, y9, y10⟩ := e
      simp only at k1 k2 k3 k4
      subst k1
      exact ⟨_, _, _, _, _, _, _, _, rfl, k2, k4⟩
  cases decide (v4 < v3)
  · obtain ⟨b, a5, s5, e5, d5⟩ := once_ok code a4 s4 6 d4 (by omega)
    simp only [e5, Option.bind_some, cond_false]
    cases b
    · exact done _ _ _ d5
    · obtain ⟨v6, a6, s6, e6, p6, q6, d6⟩ := below_ok code a5 s5 3 d5 (by omega)
      simp only [e6, Option.bind_some, cond_true]
      exact done _ _ _ d6
  · obtain ⟨v6, a6, s6, e6, p6, q6, d6⟩ := below_ok code a4 s4 3 d4 (by omega)
    simp only [e6, Option.bind_some, cond_true]
    exact done _ _ _ d6

theorem anytok_ok (code : List (Int × Unit)) (at_ seed : Int) (h : DrawAt code at_) : TokDrawn code (spec_l05AnyToken code at_ seed) 13 := by
  obtain ⟨t0, t1, t2, t3, t4, xs, a1, s1, e1, d1, l1⟩ := tokdraw_ok code at_ seed h
  obtain ⟨v2, a2, s2, e2, p2, q2, d2⟩ := below_ok code a1 s1 24 d1 (by omega)
  unfold spec_l05AnyToken
  simp only [e1, e2, Option.bind_some]
  have pick : ∀ l : List (Int × Unit), 0 < l.length → ∃ v at' s', spec_l01PickInt code a2 s2 l = some (v, code, at', s', ()) ∧ (v, ()) ∈ l ∧ DrawAt code at' := fun l hl => pick_ok code a2 s2 l d2 hl
  cases decide (v2 = 0)
  case true =>
    obtain ⟨v, a3, s3, e3, _, d3⟩ := pick [((0 : Int), ()), ((9 : Int), ()), ((10 : Int), ())] (by simp)
    simp only [e3, Option.bind_some, cond_true]
    exact ⟨_, _, _, _, _, _, _, _, rfl, d3, by omega⟩
  cases decide (v2 = 1)
  case true =>
    obtain ⟨v, a3, s3, e3, _, d3⟩ := pick [((0 : Int), ()), ((-1 : Int), ()), ((1000000000 : Int), ()), ((1000000001 : Int), ())] (by simp)
    simp only [e3, Option.bind_some, cond_true]
    exact ⟨_, _, _, _, _, _, _, _, rfl, d3, by omega⟩
  cases decide (v2 = 2)
  case true =>
    obtain ⟨v, a3, s3, e3, _, d3⟩ := pick [((-1 : Int), ()), ((60 : Int), ()), ((61 : Int), ())] (by simp)
    simp only [e3, Option.bind_some, cond_true]
    exact ⟨_, _, _, _, _, _, _, _, rfl, d3, by omega⟩
  cases decide (v2 = 3)
  case true =>
    obtain ⟨v, a3, s3, e3, _, d3⟩ := pick [((-1 : Int), ()), (t2, ()), (IntKind.i64.wrap (t2 + (1 : Int)), ())] (by simp)
    simp only [e3, Option.bind_some, cond_true]
    exact ⟨_, _, _, _, _, _, _, _, rfl, d3, by omega⟩
  cases decide (v2 = 4)
  case true =>
    obtain ⟨v, a3, s3, e3, _, d3⟩ := pick [((-1 : Int), ()), ((5 : Int), ()), ((6 : Int), ())] (by simp)
    simp only [e3, Option.bind_some, cond_true]
    exact ⟨_, _, _, _, _, _, _, _, rfl, d3, by omega⟩
  cases decide (v2 = 5)
  case true =>
    obtain ⟨v, a3, s3, e3, _, d3⟩ := pick [((0 : Int), ()), ((1 : Int), ()), (t2, ()), (IntKind.i64.wrap (t2 + (1 : Int)), ())] (by simp)
    simp only [e3, Option.bind_some, cond_true, ble_true (show (xs.length + 1) * 8 ≤ lim by unfold lim; omega)]
    exact ⟨_, _, _, _, _, _, _, _, rfl, d3, by simp; omega⟩
  exact ⟨_, _, _, _, _, _, _, _, rfl, d2, by omega⟩

end Go.TM
