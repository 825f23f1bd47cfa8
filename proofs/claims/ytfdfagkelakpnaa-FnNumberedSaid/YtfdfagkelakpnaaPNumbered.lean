/- What a drawn token numbers has the next numbers, of who says it; the token stays right. -/
import Derived.Test.YtfdfagkelakpnaaPDrawTok
set_option linter.unusedSimpArgs false
set_option linter.unusedVariables false
namespace Go.TM
open Go

/-- The item that the j-th text becomes. -/
def numItem (c2 from_ : Int) (level : List (Int × Unit)) (texts : List (ByteArray × Unit)) (j : Nat) : ItemR :=
  (c2 + ((j + 1 : Nat) : Int), from_, (bif decide (j < level.length) && decide ((level.getD j ((0 : Int), ())).1 = 2) then 2 else 1), (texts.getD j (ByteArray.empty, ())).1, ())
def numItems (c2 from_ : Int) (level : List (Int × Unit)) (texts : List (ByteArray × Unit)) (m : Nat) : ItemL := (List.range m).map (numItem c2 from_ level texts)
theorem numItems_len (c2 from_ : Int) (level : List (Int × Unit)) (texts : List (ByteArray × Unit)) (m : Nat) : (numItems c2 from_ level texts m).length = m := by simp [numItems]
theorem numItems_succ (c2 from_ : Int) (level : List (Int × Unit)) (texts : List (ByteArray × Unit)) (m : Nat) : numItems c2 from_ level texts (m + 1) = numItems c2 from_ level texts m ++ [numItem c2 from_ level texts m] := by
  unfold numItems
  rw [List.range_succ, List.map_append]
  rfl

theorem number_val (t0c0 : Int) (t0c1 : Int) (t0c2 : Int) (t0c3 : Int) (t0c4 : Int) (t0c5 : List (Int × Unit)) (from_1 : Int) (level2 : List (Int × Unit)) (texts3 : List (ByteArray × Unit)) (h0 : List.length t0c5 ≤ 1048576) (h3 : List.length texts3 ≤ 1048576) (hd : 1 ≤ from_1 ∧ from_1 ≤ 5) (ht : TokP t0c0 t0c1 t0c2 t0c3 t0c4 t0c5) :
    ∃ m t3, impl_Number t0c0 t0c1 t0c2 t0c3 t0c4 t0c5 from_1 level2 texts3 = some (t0c0, t0c1, t0c2 + ((m : Nat) : Int), t3, t0c4, t0c5, numItems t0c2 from_1 level2 texts3 m, ()) ∧ m ≤ 3 ∧ m ≤ texts3.length ∧ t0c2 + ((m : Nat) : Int) ≤ 60 ∧ (t3 = t0c3 ∨ t3 = t0c2 + ((m : Nat) : Int)) := by
  obtain ⟨b, _, k2, k3⟩ := token_iff t0c0 t0c1 t0c2 t0c3 t0c4 t0c5 h0
  have hb := k3.2 ht
  subst hb
  obtain ⟨_, c2⟩ := copyToken_eq t0c0 t0c1 t0c2 t0c3 t0c4 t0c5 h0
  obtain ⟨_, _, z2, z3, _⟩ := ht
  have hm : (if (3 : Int) < ((List.length texts3 : Nat) : Int) then (3 : Int) else ((List.length texts3 : Nat) : Int)) = ((min 3 texts3.length : Nat) : Int) := by split <;> omega
  have hml : (texts3.take (min 3 texts3.length)).length = min 3 texts3.length := by simp
  unfold impl_Number
  simp only [k2, c2, daemon_eq, dec_true hd.1, dec_true hd.2, Bool.and_self, Option.bind_some, Bool.not_true, cond_false, hm, toNat_nat, zero_le_nat, cond_true, List.drop_zero, hml, dec_true (show ((min 3 texts3.length : Nat) : Int) ≤ ((List.length texts3 : Nat) : Int) by omega)]
  have fin : ∀ (k : Nat), ∃ v : Int × Int × Int × Int × Int × (List (Int × Unit)) × Int × Int × Int × Int × Int × (List (Int × Unit)) × Int × Int × Int × Int × Int × (List (Int × Unit)) × ItemL × Unit, v = (t0c0, t0c1, t0c2, t0c3, t0c4, t0c5, (0 : Int), (0 : Int), (0 : Int), (0 : Int), (0 : Int), [], t0c0, t0c1, t0c2 + ((k : Nat) : Int), t0c3, t0c4, t0c5, numItems t0c2 from_1 level2 texts3 k, ()) := fun k => ⟨_, rfl⟩
  obtain ⟨e, g1, m, g2, g3, g4, g5⟩ : ∃ e, loopV impl_Number_r0 (from_1, level2, t0c0, t0c1, t0c2, t0c3, t0c4, t0c5, (0 : Int), (0 : Int), (0 : Int), (0 : Int), (0 : Int), [], t0c0, t0c1, t0c2, t0c3, t0c4, t0c5, [], texts3.take (min 3 texts3.length), ((min 3 texts3.length : Nat) : Int), (0 : Int), ()) = some e ∧
      ∃ m : Nat, e = .inl (t0c0, t0c1, t0c2, t0c3, t0c4, t0c5, (0 : Int), (0 : Int), (0 : Int), (0 : Int), (0 : Int), [], t0c0, t0c1, t0c2 + ((m : Nat) : Int), t0c3, t0c4, t0c5, numItems t0c2 from_1 level2 texts3 m, ()) ∧ m ≤ 3 ∧ m ≤ texts3.length ∧ t0c2 + ((m : Nat) : Int) ≤ 60 := by
    refine loop_inv (min 3 texts3.length) (fun k x => x = (from_1, level2, t0c0, t0c1, t0c2, t0c3, t0c4, t0c5, (0 : Int), (0 : Int), (0 : Int), (0 : Int), (0 : Int), [], t0c0, t0c1, t0c2 + ((k : Nat) : Int), t0c3, t0c4, t0c5, numItems t0c2 from_1 level2 texts3 k, texts3.take (min 3 texts3.length), ((min 3 texts3.length : Nat) : Int), ((k : Nat) : Int), ()) ∧ t0c2 + ((k : Nat) : Int) ≤ 60) _ ?_ ?_ ⟨by rw [show t0c2 + ((0 : Nat) : Int) = t0c2 by omega]; rfl, by omega⟩
    · rintro x ⟨rfl, q⟩
      exact ⟨_, by simp only [impl_Number_r0, impl_Number_c0, lt_nat_irr, cond_false], _, rfl, by omega, by omega, q⟩
    · rintro k x hmk ⟨rfl, q⟩
      have h1 : k < texts3.length := by omega
      have htk : (texts3.take (min 3 texts3.length))[k]? = some texts3[k] := by rw [List.getElem?_take_of_lt hmk]; exact List.getElem?_eq_getElem h1
      have hgt : (texts3.getD k (ByteArray.empty, ())).1 = texts3[k].1 := by rw [List.getD_eq_getElem?_getD, List.getElem?_eq_getElem h1, Option.getD_some]
      have stop : ∃ m : Nat, (.inl (t0c0, t0c1, t0c2, t0c3, t0c4, t0c5, (0 : Int), (0 : Int), (0 : Int), (0 : Int), (0 : Int), [], t0c0, t0c1, t0c2 + ((k : Nat) : Int), t0c3, t0c4, t0c5, numItems t0c2 from_1 level2 texts3 k, ()) : Sum _ Unit) = .inl (t0c0, t0c1, t0c2, t0c3, t0c4, t0c5, (0 : Int), (0 : Int), (0 : Int), (0 : Int), (0 : Int), ([] : List (Int × Unit)), t0c0, t0c1, t0c2 + ((m : Nat) : Int), t0c3, t0c4, t0c5, numItems t0c2 from_1 level2 texts3 m, ()) ∧ m ≤ 3 ∧ m ≤ texts3.length ∧ t0c2 + ((m : Nat) : Int) ≤ 60 :=
        ⟨k, rfl, by omega, by omega, q⟩
      by_cases h5 : (60 : Int) ≤ t0c2 + ((k : Nat) : Int)
      · refine .inl ⟨_, ?_, stop⟩
        simp only [impl_Number_r0, impl_Number_c0, lt_nat_true hmk, zero_le_nat, cond_true, toNat_nat, htk, Option.bind_some, dec_true h5]
      have e1 : IntKind.i64.wrap ((t0c2 + ((k : Nat) : Int)) + (1 : Int)) = t0c2 + ((k + 1 : Nat) : Int) := by rw [wrap_id] <;> omega
      by_cases h6 : (60 : Int) < ((ByteArray.size texts3[k].1 : Nat) : Int)
      · refine .inl ⟨_, ?_, stop⟩
        simp only [impl_Number_r0, impl_Number_c0, lt_nat_true hmk, zero_le_nat, cond_true, cond_false, toNat_nat, htk, Option.bind_some, dec_false h5, dec_true h6]
      refine .inr ⟨_, ?_, rfl, by omega⟩
      have hlen := numItems_len t0c2 from_1 level2 texts3 k
      simp only [impl_Number_r0, impl_Number_c0, lt_nat_true hmk, zero_le_nat, cond_true, cond_false, toNat_nat, htk, Option.bind_some, dec_false h5, dec_false h6, e1, hlen, ble_true (show (k + 1) * 40 ≤ lim by unfold lim; omega), succ_wrap (show k < 4611686018427387904 by omega)]
      rw [numItems_succ]
      unfold numItem
      rw [hgt]
      by_cases h7 : k < level2.length
      · have hgl : level2.getD k ((0 : Int), ()) = level2[k] := by rw [List.getD_eq_getElem?_getD, List.getElem?_eq_getElem h7, Option.getD_some]
        rw [lt_nat_true h7, dec_true h7, hgl]
        simp only [cond_true, List.getElem?_eq_getElem h7, Option.bind_some, Bool.true_and]
        cases decide (level2[k].1 = 2) <;> rfl
      · rw [dec_false (show ¬ ((k : Nat) : Int) < ((List.length level2 : Nat) : Int) by omega), dec_false h7]
        rfl
  rw [g1]
  subst g2
  simp only [outK_inl]
  by_cases w1 : t0c3 = t0c2
  · rw [dec_true w1]
    by_cases w2 : t0c4 = 0
    · rw [dec_true w2]
      exact ⟨m, _, rfl, g3, g4, g5, .inr rfl⟩
    · rw [dec_false w2]
      exact ⟨m, _, rfl, g3, g4, g5, .inl rfl⟩
  · rw [dec_false w1]
    exact ⟨m, _, rfl, g3, g4, g5, .inl rfl⟩

theorem sameItems_self (l : ItemL) (h : l.length ≤ 1048576) : laws_sameItems l l = some (true, ()) := by
  have hl := loop_run (round := laws_sameItems_r0) (e := .inl ()) l.length (fun k => (l, l, ((k : Nat) : Int), ())) (by
      simp only [laws_sameItems_r0, laws_sameItems_c0, lt_nat_irr, cond_false]) (fun k hk => by
      simp only [laws_sameItems_r0, laws_sameItems_c0, lt_nat_true hk, zero_le_nat, cond_true, cond_false, toNat_nat, List.getElem?_eq_getElem hk, Option.bind_some, decide_true, strEq_self, Bool.and_self, Bool.not_true, succ_wrap (show k < 4611686018427387904 by omega)])
  have hl : loopV laws_sameItems_r0 (l, l, (0 : Int), ()) = _ := hl
  unfold laws_sameItems
  simp only [decide_true, Bool.not_true, cond_false, hl, outK_inl]

/-! ### What is drawn -/
theorem name_ok (code : List (Int × Unit)) (at_ seed : Int) (h : DrawAt code at_) : ∃ v at' s', spec_l03Name code at_ seed = some (v, code, at', s', ()) ∧ DrawAt code at' := by
  unfold spec_l03Name spec_l01Pick
  obtain ⟨v, a1, s1, e1, v1, v2, d1⟩ := below_ok code at_ seed 5 h (by omega)
  obtain ⟨k, rfl⟩ := Int.eq_ofNat_of_zero_le v1
  have e1 : spec_l01Below code at_ seed ((List.length [((ByteArray.mk #[97, 110, 110]), ()), ((ByteArray.mk #[98, 111, 98]), ()), ((ByteArray.mk #[99, 121]), ()), ((ByteArray.mk #[100, 52]), ()), ((ByteArray.mk #[101, 118, 101]), ())] : Nat) : Int) = _ := e1
  have hk : k < [((ByteArray.mk #[97, 110, 110]), ()), ((ByteArray.mk #[98, 111, 98]), ()), ((ByteArray.mk #[99, 121]), ()), ((ByteArray.mk #[100, 52]), ()), ((ByteArray.mk #[101, 118, 101]), ())].length := by
    show k < 5
    omega
  simp only [e1, Option.bind_some, zero_le_nat, cond_true, toNat_nat, List.getElem?_eq_getElem hk]
  exact ⟨_, _, _, rfl, d1⟩

theorem long_ok (n : Nat) (x : Int) (h : n ≤ 1048576) : ∃ b, spec_l01Long ((n : Nat) : Int) x = some (b, ()) := by
  unfold spec_l01Long
  obtain ⟨e, he, hq⟩ := loop_inv (round := spec_l01Long_r0) (x := (((n : Nat) : Int), x, List.replicate n ((0 : Int), ()), ((0 : Nat) : Int), ())) n (fun k y => ∃ l : List (Int × Unit), y = (((n : Nat) : Int), x, l, ((k : Nat) : Int), ()) ∧ l.length = n) (fun e => ∃ y, e = .inl y) (by
      rintro y ⟨l, rfl, hl⟩
      exact ⟨.inl (l, ()), by simp only [spec_l01Long_r0, spec_l01Long_c0, lt_nat_irr, cond_false], _, rfl⟩) (by
      rintro k y hk ⟨l, rfl, hl⟩
      have hkl : k < l.length := by omega
      refine .inr ⟨_, ?_, l.set k (x, ()), rfl, (by rw [List.length_set]; exact hl)⟩
      simp only [spec_l01Long_r0, spec_l01Long_c0, lt_nat_true hk, zero_le_nat, cond_true, toNat_nat, blt_true hkl, List.getElem?_eq_getElem hkl, Option.bind_some, succ_wrap (show k < 4611686018427387904 by omega)]) ⟨List.replicate n ((0 : Int), ()), rfl, List.length_replicate⟩
  have he : loopV spec_l01Long_r0 (((n : Nat) : Int), x, List.replicate n ((0 : Int), ()), (0 : Int), ()) = some e := he
  obtain ⟨y, rfl⟩ := hq
  simp only [decide_true, cond_true, zero_le_nat, toNat_nat, ble_true (show n * 1 ≤ lim by unfold lim; omega), he, outK_inl]
  exact ⟨_, rfl⟩

/-- How the loop that draws texts leaves. -/
abbrev NumE : Type := Int × Int × Int × Int × Int × (List (Int × Unit)) × (List (Int × Unit)) × Int × Int × Int × Int × Int × Int × Int × (List (Int × Unit)) × (List (Int × Unit)) × (List (ByteArray × Unit)) × Unit
def TextOut {B : Type} (code : List (Int × Unit)) (c0 c1 c2 c3 c4 : Int) (xs : List (Int × Unit)) : Sum NumE B → Prop
  | .inl y => ∃ at' s' lv tx, y = (0, 0, 0, 0, 0, [], code, at', s', c0, c1, c2, c3, c4, xs, lv, tx, ()) ∧ DrawAt code at' ∧ List.length lv ≤ 6 ∧ List.length tx ≤ 6
  | .inr _ => False

theorem textdraw_ok (code : List (Int × Unit)) (at_ seed c0 c1 c2 c3 c4 : Int) (xs : List (Int × Unit)) (h : DrawAt code at_) :
    ∃ e, loopV spec_DrawNumber_r0 ((0 : Int), (0 : Int), (0 : Int), (0 : Int), (0 : Int), [], code, at_, seed, c0, c1, c2, c3, c4, xs, [], [], (0 : Int), ()) = some e ∧ TextOut code c0 c1 c2 c3 c4 xs e := by
  refine loop_inv (round := spec_DrawNumber_r0) 6 (fun k x => ∃ at' s' lv tx, x = ((0 : Int), (0 : Int), (0 : Int), (0 : Int), (0 : Int), [], code, at', s', c0, c1, c2, c3, c4, xs, lv, tx, ((k : Nat) : Int), ()) ∧ DrawAt code at' ∧ List.length lv ≤ k ∧ List.length tx ≤ k) (TextOut code c0 c1 c2 c3 c4 xs) ?_ ?_ ⟨at_, seed, [], [], rfl, h, Nat.le_refl _, Nat.le_refl _⟩
  · rintro x ⟨at', s', lv, tx, rfl, hd, h1, h2⟩
    obtain ⟨v, a1, s1, e1, v1, v2, d1⟩ := below_ok code at' s' 6 hd (by omega)
    refine ⟨.inl _, ?_, a1, s1, lv, tx, rfl, d1, h1, h2⟩
    simp only [spec_DrawNumber_r0, spec_DrawNumber_c0, e1, Option.bind_some, dec_false (show ¬ ((6 : Nat) : Int) < v by omega), cond_false]
  · rintro k x hk ⟨at', s', lv, tx, rfl, hd, h1, h2⟩
    obtain ⟨v, a1, s1, e1, v1, v2, d1⟩ := below_ok code at' s' 6 hd (by omega)
    simp only [spec_DrawNumber_r0, spec_DrawNumber_c0, e1, Option.bind_some]
    by_cases hlt : ((k : Nat) : Int) < v
    · obtain ⟨w, a2, s2, e2, _, _, d2⟩ := below_ok code a1 s1 4 d1 (by omega)
      obtain ⟨u, a3, s3, e3, d3⟩ := name_ok code a2 s2 d2
      rw [dec_true hlt]
      simp only [cond_true, e2, e3, Option.bind_some, ble_true (show (List.length lv + 1) * 8 ≤ lim by unfold lim; omega), ble_true (show (List.length tx + 1) * 16 ≤ lim by unfold lim; omega), succ_wrap (show k < 4611686018427387904 by omega)]
      exact .inr ⟨_, rfl, a3, s3, _, _, rfl, d3, by simp; omega, by simp; omega⟩
    · rw [dec_false hlt]
      exact .inl ⟨_, rfl, a1, s1, lv, tx, rfl, d1, by omega, by omega⟩

theorem drawnumber_ok (code : List (Int × Unit)) (h : code.length ≤ 1048576) : ∃ t0 t1 t2 t3 t4 xs d lv tx, spec_DrawNumber code = some (t0, t1, t2, t3, t4, xs, d, lv, tx, ()) ∧ List.length xs ≤ 13 ∧ List.length lv ≤ 6 ∧ List.length tx ≤ 8 := by
  obtain ⟨s0, e0⟩ := new_ok code h
  have d0 : DrawAt code 0 := ⟨by omega, by omega, h⟩
  obtain ⟨t0, t1, t2, t3, t4, xs, a1, s1, e1, d1, l1⟩ := anytok_ok code 0 s0 d0
  obtain ⟨b2, a2, s2, e2, d2⟩ := once_ok code a1 s1 10 d1 (by omega)
  obtain ⟨bl, hl⟩ := long_ok 61 65 (by omega)
  have hl : spec_l01Long (61 : Int) (65 : Int) = some (bl, ()) := hl
  unfold spec_DrawNumber
  simp only [e0, e1, e2, Option.bind_some]
  cases b2
  · obtain ⟨e, g1, g2⟩ := textdraw_ok code a2 s2 t0 t1 t2 t3 t4 xs d2
    simp only [cond_false, g1]
    cases e with
    | inr e => exact g2.elim
    | inl e =>
      obtain ⟨a3, s3, lv, tx, rfl, d3, l2, l3⟩ := g2
      obtain ⟨b4, a4, s4, e4, d4⟩ := once_ok code a3 s3 10 d3 (by omega)
      obtain ⟨v5, a5, s5, e5, d5⟩ := place_ok code a4 s4 6 d4 (by omega)
      simp only [outK_inl, e4, Option.bind_some]
      cases b4
      · simp only [cond_false, e5, Option.bind_some]
        exact ⟨_, _, _, _, _, _, _, _, _, rfl, l1, l2, by omega⟩
      · simp only [cond_true, hl, e5, Option.bind_some, ble_true (show (2 + List.length tx) * 16 ≤ lim by unfold lim; omega)]
        exact ⟨_, _, _, _, _, _, _, _, _, rfl, l1, l2, by simp; omega⟩
  · obtain ⟨e, g1, g2⟩ := textdraw_ok code a2 s2 1 3 59 59 0 [] d2
    simp only [cond_true, g1]
    cases e with
    | inr e => exact g2.elim
    | inl e =>
      obtain ⟨a3, s3, lv, tx, rfl, d3, l2, l3⟩ := g2
      obtain ⟨b4, a4, s4, e4, d4⟩ := once_ok code a3 s3 10 d3 (by omega)
      obtain ⟨v5, a5, s5, e5, d5⟩ := place_ok code a4 s4 6 d4 (by omega)
      simp only [outK_inl, e4, Option.bind_some]
      cases b4
      · simp only [cond_false, e5, Option.bind_some]
        exact ⟨_, _, _, _, _, _, _, _, _, rfl, by simp, l2, by omega⟩
      · simp only [cond_true, hl, e5, Option.bind_some, ble_true (show (2 + List.length tx) * 16 ≤ lim by unfold lim; omega)]
        exact ⟨_, _, _, _, _, _, _, _, _, rfl, by simp, l2, by simp; omega⟩

theorem number_no (t0c0 : Int) (t0c1 : Int) (t0c2 : Int) (t0c3 : Int) (t0c4 : Int) (t0c5 : List (Int × Unit)) (from_1 : Int) (level2 : List (Int × Unit)) (texts3 : List (ByteArray × Unit)) (h0 : List.length t0c5 ≤ 1048576) {b : Bool} (hb : impl_TokenOk t0c0 t0c1 t0c2 t0c3 t0c4 t0c5 = some (b, ())) (hn : b = false ∨ ¬ (1 ≤ from_1 ∧ from_1 ≤ 5)) :
    impl_Number t0c0 t0c1 t0c2 t0c3 t0c4 t0c5 from_1 level2 texts3 = some (t0c0, t0c1, t0c2, t0c3, t0c4, t0c5, [], ()) := by
  obtain ⟨_, c2⟩ := copyToken_eq t0c0 t0c1 t0c2 t0c3 t0c4 t0c5 h0
  unfold impl_Number
  simp only [hb, c2, daemon_eq, Option.bind_some]
  rcases hn with rfl | hn
  · cases (decide (1 ≤ from_1) && decide (from_1 ≤ 5)) <;> rfl
  · rw [show (decide (1 ≤ from_1) && decide (from_1 ≤ 5)) = false by rw [Bool.and_eq_false_iff, decide_eq_false_iff_not, decide_eq_false_iff_not]; omega]
    rfl

theorem numbered_loop (t0 t1 t2 t3 t4 : Int) (xs : List (Int × Unit)) (d : Int) (lv : List (Int × Unit)) (tx : List (ByteArray × Unit)) (n0 n1 n2 n3 n4 : Int) (ns : List (Int × Unit)) (m : Nat) (h2 : 0 ≤ t2 ∧ t2 ≤ 60) (hm : m ≤ 3) (ht : m ≤ tx.length) :
    loopV laws_FnNumbered_r0 (t0, t1, t2, t3, t4, xs, d, lv, tx, n0, n1, n2, n3, n4, ns, numItems t2 d lv tx m, (0 : Int), ()) = some (.inl (t0, t1, t2, t3, t4, xs, n0, n1, n2, n3, n4, ns, numItems t2 d lv tx m, ())) := by
  have hl := loop_run (round := laws_FnNumbered_r0) (e := .inl (t0, t1, t2, t3, t4, xs, n0, n1, n2, n3, n4, ns, numItems t2 d lv tx m, ())) m (fun k => (t0, t1, t2, t3, t4, xs, d, lv, tx, n0, n1, n2, n3, n4, ns, numItems t2 d lv tx m, ((k : Nat) : Int), ())) (by
    simp only [laws_FnNumbered_r0, laws_FnNumbered_c0, numItems_len, lt_nat_irr, cond_false]) (fun k hk => by
    have htk : k < tx.length := by omega
    have hlen := numItems_len t2 d lv tx m
    have hit : (numItems t2 d lv tx m)[k]? = some (numItem t2 d lv tx k) := by
      unfold numItems
      rw [List.getElem?_map, List.getElem?_range hk]
      rfl
    have hgt : (tx.getD k (ByteArray.empty, ())).1 = tx[k].1 := by rw [List.getD_eq_getElem?_getD, List.getElem?_eq_getElem htk, Option.getD_some]
    have e1 : IntKind.i64.wrap ((IntKind.i64.wrap (t2 + ((k : Nat) : Int))) + (1 : Int)) = t2 + ((k + 1 : Nat) : Int) := by
      rw [wrap_id (show -9223372036854775808 ≤ t2 + ((k : Nat) : Int) by omega) (by omega), wrap_id (by omega) (by omega)]
      omega
    simp only [laws_FnNumbered_r0, laws_FnNumbered_c0, hlen, lt_nat_true hk, zero_le_nat, cond_true, toNat_nat, blt_true hk, hit, Option.bind_some, e1, blt_true htk, List.getElem?_eq_getElem htk, succ_wrap (show k < 4611686018427387904 by omega)]
    unfold numItem
    simp only [decide_true, Bool.not_true, cond_false, hgt, strEq_self]
    by_cases h7 : k < lv.length
    · have hgl : lv.getD k ((0 : Int), ()) = lv[k] := by rw [List.getD_eq_getElem?_getD, List.getElem?_eq_getElem h7, Option.getD_some]
      simp only [lt_nat_true h7, dec_true h7, hgl, cond_true, blt_true h7, List.getElem?_eq_getElem h7, Option.bind_some, Bool.true_and]
      cases decide (lv[k].1 = 2) <;> rfl
    · simp only [dec_false (show ¬ ((k : Nat) : Int) < ((List.length lv : Nat) : Int) by omega), dec_false h7, Bool.false_and, cond_false]
      rfl)
  exact hl

theorem numbered_law (code : List (Int × Unit)) : laws_FnNumbered code = some (true, ()) := by
  unfold laws_FnNumbered laws_big
  simp only [Option.bind_some]
  by_cases hbig : (1048576 : Int) < ((List.length code : Nat) : Int)
  · rw [dec_true hbig]; rfl
  rw [dec_false hbig]
  obtain ⟨t0, t1, t2, t3, t4, xs, d, lv, tx, hdraw, l1, l2, l3⟩ := drawnumber_ok code (by omega)
  obtain ⟨b, k1, k2, k3⟩ := token_iff t0 t1 t2 t3 t4 xs (by omega)
  have hsame : ∀ {v}, impl_Number t0 t1 t2 t3 t4 xs d lv tx = some v → spec_Number t0 t1 t2 t3 t4 xs d lv tx = some v := by
    intro v hv
    obtain ⟨o0, o1, o2, o3, o4, o5, o6, q1, q2, _⟩ := same_Number' t0 t1 t2 t3 t4 xs d lv tx (by omega)
    rw [q2] at hv
    rw [q1, hv]
  by_cases hgood : b = true ∧ (1 ≤ d ∧ d ≤ 5)
  · obtain ⟨rfl, hd⟩ := hgood
    have ht := k3.1 rfl
    obtain ⟨m, u3, v1, v2, v3, v4, v5⟩ := number_val t0 t1 t2 t3 t4 xs d lv tx (by omega) (by omega) hd ht
    obtain ⟨b', j1, j2, j3⟩ := token_iff t0 t1 (t2 + ((m : Nat) : Int)) u3 t4 xs (by omega)
    have hb' : b' = true := by
      obtain ⟨w0, w1, w2, w3, w4, w5, w6⟩ := ht
      refine j3.2 ⟨w0, w1, ⟨by omega, v4⟩, ?_, w4, w5, fun j hj hjk => ?_⟩
      · rcases v5 with rfl | rfl
        · exact ⟨by omega, by omega⟩
        · exact ⟨by omega, by omega⟩
      · obtain ⟨x1, x2, x3⟩ := w6 j hj hjk
        exact ⟨x1, by omega, x3⟩
    subst hb'
    have hlen := numItems_len t2 d lv tx m
    have hseq : IntKind.i64.wrap (t2 + ((m : Nat) : Int)) = t2 + ((m : Nat) : Int) := by
      have := ht.2.2.1
      rw [wrap_id] <;> omega
    simp only [cond_false, hdraw, Option.bind_some, v1, hsame v1, sameItems_self _ (show (numItems t2 d lv tx m).length ≤ 1048576 by omega), Bool.not_true, k1, numbered_loop t0 t1 t2 t3 t4 xs d lv tx t0 t1 (t2 + ((m : Nat) : Int)) u3 t4 xs m ht.2.2.1 v2 v3, outK_inl, j2, cond_true, hlen, hseq, decide_true, dec_true (show ((m : Nat) : Int) ≤ 3 by omega)]
  · have hno := number_no t0 t1 t2 t3 t4 xs d lv tx (by omega) k2 (by
      cases b
      · exact .inl rfl
      · exact .inr (fun h => hgood ⟨rfl, h⟩))
    simp only [cond_false, hdraw, Option.bind_some, hno, hsame hno, sameItems_self [] (by simp), Bool.not_true, k1]
    cases b
    · rfl
    · have ht := k3.1 rfl
      have hl := numbered_loop t0 t1 t2 t3 t4 xs d lv tx t0 t1 t2 t3 t4 xs 0 ht.2.2.1 (by omega) (by omega)
      have hl : loopV laws_FnNumbered_r0 (t0, t1, t2, t3, t4, xs, d, lv, tx, t0, t1, t2, t3, t4, xs, [], (0 : Int), ()) = some (.inl (t0, t1, t2, t3, t4, xs, t0, t1, t2, t3, t4, xs, [], ())) := hl
      have hseq : IntKind.i64.wrap (t2 + ((List.length ([] : ItemL) : Nat) : Int)) = t2 := by
        have := ht.2.2.1
        rw [List.length_nil, wrap_id] <;> omega
      simp only [Bool.not_true, cond_false, hl, outK_inl, k2, Option.bind_some, cond_true, hseq, decide_true]
      rfl
end Go.TM
