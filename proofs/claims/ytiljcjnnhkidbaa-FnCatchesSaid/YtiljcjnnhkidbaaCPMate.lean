/- MateOk, of the program and of the reference. -/
import Derived.Test.YtiljcjnnhkidbaaCPBundleAt
set_option linter.unusedSimpArgs false
set_option linter.unusedVariables false
namespace Go.TM
open Go
def LevOk (l : List (Int × Unit)) (n : Nat) : Prop := ∀ j (h : j < l.length), j < n → (decide (1 ≤ l[j].1) && decide (l[j].1 ≤ 2)) = true
def ShortOk (l : List (ByteArray × Unit)) (n : Nat) : Prop := ∀ j (h : j < l.length), j < n → ByteArray.size l[j].1 ≤ 60
def TextsOut (lv : List (Int × Unit)) (tx : List (ByteArray × Unit)) : Sum (List (Int × Unit) × List (ByteArray × Unit) × Unit) (Bool × Unit) → Prop
 | .inl y => y = (lv, tx, ()) ∧ LevOk lv (min lv.length tx.length) ∧ ShortOk tx (min lv.length tx.length)
 | .inr b => b.1 = false ∧ ¬ (LevOk lv (min lv.length tx.length) ∧ ShortOk tx (min lv.length tx.length))
theorem texts_spec (lv : List (Int × Unit)) (tx : List (ByteArray × Unit)) (h1 : lv.length ≤ 1048576) (h2 : tx.length ≤ 1048576) : ∃ b, spec_l10Texts lv tx = some (b, ()) ∧ (b = true ↔ tx.length ≤ 20 ∧ lv.length = tx.length ∧ LevOk lv lv.length ∧ ShortOk tx tx.length) := by
 obtain ⟨e, he, hq⟩ := loop_inv (round := spec_l10Texts_r0) (x := (lv, tx, ((0 : Nat) : Int), ())) (min lv.length tx.length) (fun k x => x = (lv, tx, ((k : Nat) : Int), ()) ∧ LevOk lv k ∧ ShortOk tx k) (TextsOut lv tx) (by
     rintro x ⟨rfl, g1, g2⟩
     refine ⟨.inl (lv, tx, ()), ?_, rfl, g1, g2⟩
     by_cases hb : min lv.length tx.length < tx.length
     · have e : min lv.length tx.length = lv.length := by omega
       simp only [spec_l10Texts_r0, spec_l10Texts_c0, lt_nat_true hb, cond_true]; rw [e, lt_nat_irr]; rfl
     · have e : min lv.length tx.length = tx.length := by omega
       simp only [spec_l10Texts_r0, spec_l10Texts_c0]; rw [e, lt_nat_irr]; rfl) (by
     rintro k x hk ⟨rfl, g1, g2⟩
     have hl : k < lv.length := by omega
     have ht : k < tx.length := by omega
     simp only [spec_l10Texts_r0, spec_l10Texts_c0, lt_nat_true hl, lt_nat_true ht, zero_le_nat, cond_true, toNat_nat, List.getElem?_eq_getElem hl, List.getElem?_eq_getElem ht, Option.bind_some, in_eq, succ_wrap (show k < 4611686018427387904 by omega)]
     cases hlv : (decide (1 ≤ lv[k].1) && decide (lv[k].1 ≤ 2))
     · refine .inl ⟨.inr (false, ()), rfl, rfl, fun hn => ?_⟩; have := hn.1 k hl (by omega); rw [hlv] at this
       cases this
     · by_cases hs : (60 : Int) < ((ByteArray.size tx[k].1 : Nat) : Int)
       · rw [dec_true hs]; refine .inl ⟨.inr (false, ()), rfl, rfl, fun hn => ?_⟩; have := hn.2 k ht (by omega); omega
       · rw [dec_false hs]; refine .inr ⟨_, rfl, rfl, fun j hj hjk => ?_, fun j hj hjk => ?_⟩
         · by_cases e : j < k
           · exact g1 j hj e
           · have : j = k := by omega
             subst this; exact hlv
         · by_cases e : j < k
           · exact g2 j hj e
           · have : j = k := by omega
             subst this; omega) ⟨rfl, fun j _ h => by omega, fun j _ h => by omega⟩
 unfold spec_l10Texts; rw [show (0 : Int) = ((0 : Nat) : Int) from rfl, he]
 cases e with
 | inr e =>
   obtain ⟨q1, q2⟩ := hq; refine ⟨false, by rw [← q1]; rfl, ⟨(fun h => by cases h), fun ⟨w1, w2, w3, w4⟩ => ?_⟩⟩; exact absurd ⟨fun j hj hm => w3 j hj hj, fun j hj hm => w4 j hj hj⟩ q2
 | inl e =>
   obtain ⟨q1, q2, q3⟩ := hq; subst q1; simp only [outK_inl]
   by_cases w1 : ((List.length tx : Nat) : Int) ≤ 20
   · rw [dec_true w1]; refine ⟨_, rfl, ?_⟩; rw [decide_eq_true_eq]
     constructor
     · intro w2; have w2 : lv.length = tx.length := by omega
       exact ⟨by omega, w2, fun j hj _ => q2 j hj (by omega), fun j hj _ => q3 j hj (by omega)⟩
     · rintro ⟨_, w2, _⟩
       rw [w2]
   · rw [dec_false w1]; exact ⟨false, rfl, ⟨(fun h => by cases h), fun ⟨w2, _⟩ => by omega⟩⟩
theorem short_impl (tx : List (ByteArray × Unit)) (h2 : tx.length ≤ 1048576) : ∃ b, impl_areShort tx = some (b, ()) ∧ (b = true ↔ ShortOk tx tx.length) := by
 obtain ⟨e, he, hq⟩ := loop_inv (round := impl_areShort_r0) (x := (tx, ((List.length tx : Nat) : Int), ((0 : Nat) : Int), ())) tx.length (fun k x => x = (tx, ((List.length tx : Nat) : Int), ((k : Nat) : Int), ()) ∧ ShortOk tx k) (fun e => (e = .inl () ∧ ShortOk tx tx.length) ∨ (e = .inr (false, ()) ∧ ¬ ShortOk tx tx.length)) (by
     rintro x ⟨rfl, g2⟩
     exact ⟨.inl (), by simp only [impl_areShort_r0, impl_areShort_c0, lt_nat_irr, cond_false], .inl ⟨rfl, g2⟩⟩) (by
     rintro k x hk ⟨rfl, g2⟩
     simp only [impl_areShort_r0, impl_areShort_c0, lt_nat_true hk, zero_le_nat, cond_true, toNat_nat, List.getElem?_eq_getElem hk, Option.bind_some, succ_wrap (show k < 4611686018427387904 by omega)]
     by_cases hs : (60 : Int) < ((ByteArray.size tx[k].1 : Nat) : Int)
     · rw [dec_true hs]; refine .inl ⟨.inr (false, ()), rfl, .inr ⟨rfl, fun hn => ?_⟩⟩; have := hn k hk hk; omega
     · rw [dec_false hs]; refine .inr ⟨_, rfl, rfl, fun j hj hjk => ?_⟩
       by_cases e : j < k
       · exact g2 j hj e
       · have : j = k := by omega
         subst this; omega) ⟨rfl, fun j _ h => by omega⟩
 unfold impl_areShort; rw [show (0 : Int) = ((0 : Nat) : Int) from rfl, he]; rcases hq with ⟨rfl, q⟩ | ⟨rfl, q⟩
 · exact ⟨true, rfl, ⟨fun _ => q, fun _ => rfl⟩⟩
 · exact ⟨false, rfl, ⟨(fun h => by cases h), fun h => absurd h q⟩⟩
theorem blank_same (c0 c1 c2 c3 c4 : Int) (xs : List (Int × Unit)) : ∃ b, spec_l10Blank c0 c1 c2 c3 c4 xs = some (b, ()) ∧ impl_Token_isZero c0 c1 c2 c3 c4 xs = some (b, ()) := by
 unfold spec_l10Blank spec_l05SameToken impl_Token_isZero
 cases decide (c0 = 0)
 · exact ⟨_, rfl, rfl⟩
 cases decide (c1 = 0)
 · exact ⟨_, rfl, rfl⟩
 cases decide (c2 = 0)
 · exact ⟨_, rfl, rfl⟩
 cases decide (c3 = 0)
 · exact ⟨_, rfl, rfl⟩
 cases decide (c4 = 0)
 · exact ⟨_, rfl, rfl⟩
 cases xs with
 | nil =>
   have hl := loop_run (round := spec_l05SameInts_r0) (e := .inl ()) 0 (fun k => (([] : List (Int × Unit)), ([] : List (Int × Unit)), ((k : Nat) : Int), ())) (by
     simp only [spec_l05SameInts_r0, spec_l05SameInts_c0, List.length_nil, lt_nat_irr, cond_false]) (fun k hk => by omega)
   have hl : loopV spec_l05SameInts_r0 (([] : List (Int × Unit)), ([] : List (Int × Unit)), (0 : Int), ()) = _ := hl; refine ⟨true, ?_, rfl⟩; simp only [cond_true, spec_l05SameInts, List.length_nil, decide_true, Bool.not_true, cond_false, hl, outK_inl, Option.bind_some]
 | cons x xs =>
   have e : decide (((List.length (x :: xs) : Nat) : Int) = (0 : Int)) = false := dec_false (by rw [List.length_cons]; omega); have e2 : decide (((List.length (x :: xs) : Nat) : Int) = ((List.length ([] : List (Int × Unit)) : Nat) : Int)) = false := e; refine ⟨false, ?_, ?_⟩
   · simp only [cond_true, spec_l05SameInts, e2, Bool.not_false, Option.bind_some]
   · simp only [cond_true, e]
abbrev MateR : Type := Int × Int × (List (Int × Unit)) × ItemL × (List (Int × Unit)) × (List (ByteArray × Unit)) × Int × Int × Int × Int × Int × Int × Int × Int × Int × (List (Int × Unit)) × Unit
def LevOut (m : MateR) (lv : List (Int × Unit)) : Sum MateR (Bool × Unit) → Prop
 | .inl y => y = m ∧ LevOk lv lv.length
 | .inr b => b.1 = false ∧ ¬ LevOk lv lv.length
theorem same_MateOk (m0c0 : Int) (m0c1 : Int) (m0c2 : List (Int × Unit)) (m0c3 : List (Int × Int × Int × ByteArray × Unit)) (m0c4 : List (Int × Unit)) (m0c5 : List (ByteArray × Unit)) (m0c6 : Int) (m0c7 : Int) (m0c8 : Int) (m0c9 : Int) (m0c10 : Int) (m0c11 : Int) (m0c12 : Int) (m0c13 : Int) (m0c14 : Int) (m0c15 : List (Int × Unit))
   (h0 : (List.length m0c2 + wl W_i m0c2) + (List.length m0c3 + wl W_iiis m0c3) + (List.length m0c4 + wl W_i m0c4) + (List.length m0c5 + wl W_s m0c5) + (List.length m0c15 + wl W_i m0c15) ≤ 1048576) : ∃ o0, spec_MateOk m0c0 m0c1 m0c2 m0c3 m0c4 m0c5 m0c6 m0c7 m0c8 m0c9 m0c10 m0c11 m0c12 m0c13 m0c14 m0c15 = some (o0, ()) ∧ impl_MateOk m0c0 m0c1 m0c2 m0c3 m0c4 m0c5 m0c6 m0c7 m0c8 m0c9 m0c10 m0c11 m0c12 m0c13 m0c14 m0c15 = some (o0, ()) := by
 obtain ⟨b1, r1, r2, _⟩ := ring_same m0c1 m0c2 (by omega); obtain ⟨b2, c1, c2⟩ := contains_same m0c0 m0c2 (by omega); obtain ⟨b3, i1, i2⟩ := items_same m0c3 (by omega); obtain ⟨b4, t1, t2⟩ := texts_spec m0c4 m0c5 (by omega) (by omega); obtain ⟨b5, s1, s2⟩ := short_impl m0c5 (by omega); obtain ⟨n, a1, a2, _⟩ := aru_same m0c3 (by omega); obtain ⟨b6, z1, z2⟩ := blank_same m0c10 m0c11 m0c12 m0c13 m0c14 m0c15; obtain ⟨b7, k1, k2, _⟩ := token_same m0c10 m0c11 m0c12 m0c13 m0c14 m0c15 (by omega); obtain ⟨e, he, hq⟩ := loop_inv (round := impl_MateOk_r0) (x := (m0c0, m0c1, m0c2, m0c3, m0c4, m0c5, m0c6, m0c7, m0c8, m0c9, m0c10, m0c11, m0c12, m0c13, m0c14, m0c15, m0c4, ((List.length m0c4 : Nat) : Int), ((0 : Nat) : Int), ())) m0c4.length
   (fun k x => x = (m0c0, m0c1, m0c2, m0c3, m0c4, m0c5, m0c6, m0c7, m0c8, m0c9, m0c10, m0c11, m0c12, m0c13, m0c14, m0c15, m0c4, ((List.length m0c4 : Nat) : Int), ((k : Nat) : Int), ()) ∧ LevOk m0c4 k)
   (LevOut (m0c0, m0c1, m0c2, m0c3, m0c4, m0c5, m0c6, m0c7, m0c8, m0c9, m0c10, m0c11, m0c12, m0c13, m0c14, m0c15, ()) m0c4) (by
     rintro x ⟨rfl, g⟩
     exact ⟨.inl _, by simp only [impl_MateOk_r0, impl_MateOk_c0, lt_nat_irr, cond_false], rfl, g⟩) (by
     rintro k x hk ⟨rfl, g⟩
     simp only [impl_MateOk_r0, impl_MateOk_c0, lt_nat_true hk, zero_le_nat, cond_true, toNat_nat, List.getElem?_eq_getElem hk, Option.bind_some, level_eq, succ_wrap (show k < 4611686018427387904 by omega)]
     cases hlv : (decide (1 ≤ m0c4[k].1) && decide (m0c4[k].1 ≤ 2))
     · refine .inl ⟨.inr (false, ()), rfl, rfl, fun hn => ?_⟩; have := hn k hk hk; rw [hlv] at this
       cases this
     · refine .inr ⟨_, rfl, rfl, fun j hj hjk => ?_⟩
       by_cases e : j < k
       · exact g j hj e
       · have : j = k := by omega
         subst this; exact hlv) ⟨rfl, fun j _ h => by omega⟩
 have he : loopV impl_MateOk_r0 (m0c0, m0c1, m0c2, m0c3, m0c4, m0c5, m0c6, m0c7, m0c8, m0c9, m0c10, m0c11, m0c12, m0c13, m0c14, m0c15, m0c4, ((List.length m0c4 : Nat) : Int), (0 : Int), ()) = some e := he; unfold spec_MateOk impl_MateOk; simp only [r1, r2, c1, c2, i1, i2, t1, s1, Option.bind_some, he]
 cases b1
 · cases b2
   · exact ⟨_, rfl, rfl⟩
   · exact ⟨_, rfl, rfl⟩
 cases b2
 · exact ⟨_, rfl, rfl⟩
 cases b3
 · exact ⟨_, rfl, rfl⟩
 simp only [Bool.not_true, cond_false]
 by_cases w1 : (20 : Int) < ((List.length m0c5 : Nat) : Int)
 · have : b4 = false := by
     cases b4
     · rfl
     · have := (t2.1 rfl).1; omega
   subst this; rw [dec_true w1]; exact ⟨_, rfl, rfl⟩
 rw [dec_false w1]
 cases b5
 · have : b4 = false := by
     cases b4
     · rfl
     · have := s2.2 (t2.1 rfl).2.2.2; cases this
   subst this; exact ⟨_, rfl, rfl⟩
 by_cases w2 : ((List.length m0c4 : Nat) : Int) = ((List.length m0c5 : Nat) : Int)
 case neg =>
   have : b4 = false := by
     cases b4
     · rfl
     · have := (t2.1 rfl).2.1; omega
   subst this; rw [dec_false w2]; exact ⟨_, rfl, rfl⟩
 rw [dec_true w2]
 cases e with
 | inr e =>
   obtain ⟨q1, q2⟩ := hq; have : b4 = false := by
     cases b4
     · rfl
     · exact absurd (t2.1 rfl).2.2.1 q2
   subst this; refine ⟨false, rfl, ?_⟩; show some (e.1, ()) = _; rw [q1]
 | inl e =>
   obtain ⟨q1, q2⟩ := hq; subst q1; have : b4 = true := t2.2 ⟨by omega, by omega, q2, s2.1 rfl⟩; subst this; simp only [Bool.not_true, cond_false, outK_inl, a1, a2, z1, z2, k1, k2, in_eq, in_eq', Option.bind_some]
   cases (decide (0 ≤ m0c6) && decide (m0c6 ≤ 1000000000))
   · exact ⟨_, rfl, rfl⟩
   cases (decide (0 ≤ m0c7) && decide (m0c7 ≤ 60))
   · exact ⟨_, rfl, rfl⟩
   cases (decide (0 ≤ m0c8) && decide (m0c8 ≤ ((n : Nat) : Int)))
   · exact ⟨_, rfl, rfl⟩
   cases (decide (0 ≤ m0c9) && decide (m0c9 ≤ ((n : Nat) : Int)))
   · exact ⟨_, rfl, rfl⟩
   cases b6
   · exact ⟨_, rfl, rfl⟩
   · exact ⟨_, rfl, rfl⟩
end Go.TM
