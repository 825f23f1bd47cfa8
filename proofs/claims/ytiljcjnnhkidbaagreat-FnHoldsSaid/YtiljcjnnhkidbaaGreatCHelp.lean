/- Sizes, copies, sameness: what the laws' own helping functions answer. -/
import Derived.Test.YtiljcjnnhkidbaaGreatCF2
namespace Go.TM
open Go
def Es (_ : Int × Unit) : Nat := 0
def nO (x : m9) : Nat := ByteArray.size x.2.2.2.1
def UJ (x : ByteArray × Unit) : Nat := ByteArray.size x.1
theorem mS (a b c : Int) : bl a b c = some (decide (b ≤ a) && decide (a ≤ c), ()) := by
 unfold bl
 cases decide (b ≤ a) <;> rfl
theorem sG (a b c : Int) : bD a b c = some (decide (b ≤ a) && decide (a ≤ c), ()) := by
 unfold bD
 cases decide (b ≤ a) <;> rfl
theorem oF (a : Int) : gF a = some (decide (1 ≤ a) && decide (a ≤ 5), ()) := by
 unfold gF; rw [sG]; rfl
def zR {A B : Type} : Sum A (Bool × Unit) → Sum B (Bool × Unit) → Prop
 | .inl _, .inl _ => True
 | .inr a, .inr b => a.1 = b.1
 | _, _ => False
theorem oG {k : Nat} (h0 : 0 < k) (h : k < 4611686018427387904) : IntKind.i64.wrap (((k : Nat) : Int) - (1 : Int)) = (((k - 1 : Nat)) : Int) := by
 rw [ft] <;> omega
theorem Kz (c : Int) (xs : List (Int × Unit)) (h : xs.length ≤ 1048576) :
   ∃ e f, aE dQ (c, xs, (0 : Int), ()) = some e ∧ aE jw (c, xs, xs, ((List.length xs : Nat) : Int), (0 : Int), ()) = some f ∧ zR e f := by
 refine mF xs.length (fun k x y => x = (c, xs, ((k : Nat) : Int), ()) ∧ y = (c, xs, xs, ((List.length xs : Nat) : Int), ((k : Nat) : Int), ())) zR ?_ ⟨rfl, rfl⟩
 rintro k x y hk ⟨rfl, rfl⟩
 by_cases bQ : k < xs.length
 · simp only [dQ, js, jw, pv, az bQ, aq, cond_true, aA, List.getElem?_eq_getElem bQ, Option.bind_some, mS, oF, aK (show k < 4611686018427387904 by omega)]
   cases (decide (1 ≤ xs[k].1) && decide (xs[k].1 ≤ 5))
   · exact .inl ⟨.inr (false, ()), .inr (false, ()), rfl, rfl, rfl⟩
   · by_cases h0 : 0 < k
     · have hp : k - 1 < xs.length := by omega
       rw [oG h0 (by omega)]; simp only [ah (show (0 : Int) < ((k : Nat) : Int) by omega), Bool.not_true, cond_false, cond_true, aq, aA, List.getElem?_eq_getElem hp, Option.bind_some]
       cases decide (xs[k].1 ≤ xs[k - 1].1)
       · exact .inr ⟨bQ, _, _, rfl, rfl, rfl, rfl⟩
       · exact .inl ⟨.inr (false, ()), .inr (false, ()), rfl, rfl, rfl⟩
     · have : k = 0 := by omega
       subst this; simp only [ai (show ¬ (0 : Int) < ((0 : Nat) : Int) by omega), Bool.not_true, cond_false]; exact .inr ⟨bQ, _, _, rfl, rfl, rfl, rfl⟩
 · have : k = xs.length := by omega
   subst this; exact .inl ⟨.inl (), .inl (), by simp only [dQ, js, aF, cond_false], by simp only [jw, pv, aF, cond_false], trivial⟩
theorem C6 (c : Int) (xs : List (Int × Unit)) (h : xs.length ≤ 1048576) : ∃ b, ca c xs = some (b, ()) ∧ kP c xs = some (b, ()) ∧ (b = true → 1 ≤ xs.length ∧ xs.length ≤ 5) := by
 obtain ⟨e, f, h1, h2, h3⟩ := Kz c xs h; unfold ca kP; simp only [mS, sG, Option.bind_some, h1, h2]
 cases (decide (1 ≤ c) && decide (c ≤ 9))
 · exact ⟨false, rfl, rfl, fun h => by cases h⟩
 cases hb : (decide (1 ≤ ((List.length xs : Nat) : Int)) && decide (((List.length xs : Nat) : Int) ≤ 5))
 · exact ⟨false, rfl, rfl, fun h => by cases h⟩
 have hl : 1 ≤ xs.length ∧ xs.length ≤ 5 := by
   rw [Bool.and_eq_true, decide_eq_true_eq, decide_eq_true_eq] at hb; omega
 cases e with
 | inl e => cases f with
   | inl f => exact ⟨true, rfl, rfl, fun _ => hl⟩
   | inr f => exact h3.elim
 | inr e => cases f with
   | inl f => exact h3.elim
   | inr f => exact ⟨e.1, rfl, by rw [show e.1 = f.1 from h3]; rfl, fun _ => hl⟩
def QF (e : Sum Unit (Bool × Unit)) (f : Sum Unit (Int × Unit)) : Prop := ∃ b, (e = .inl () ∧ f = .inl () ∧ b = false) ∨ (e = .inr (true, ()) ∧ (∃ k : Nat, f = .inr (((k : Nat) : Int), ())) ∧ b = true)
theorem Pg (d : Int) (xs : List (Int × Unit)) (h : xs.length ≤ 1048576) :
   ∃ e f, aE b8 (xs, d, (0 : Int), ()) = some e ∧ aE fk (xs, d, ((List.length xs : Nat) : Int), (0 : Int), ()) = some f ∧ QF e f := by
 refine mF xs.length (fun k x y => x = (xs, d, ((k : Nat) : Int), ()) ∧ y = (xs, d, ((List.length xs : Nat) : Int), ((k : Nat) : Int), ())) QF ?_ ⟨rfl, rfl⟩
 rintro k x y hk ⟨rfl, rfl⟩
 by_cases bQ : k < xs.length
 · simp only [b8, gC, fk, jT, az bQ, aq, cond_true, aA, List.getElem?_eq_getElem bQ, Option.bind_some, aK (show k < 4611686018427387904 by omega)]
   by_cases hd : xs[k].1 = d
   · rw [ah hd, ah hd.symm]; exact .inl ⟨.inr (true, ()), .inr (((k : Nat) : Int), ()), rfl, rfl, true, .inr ⟨rfl, ⟨k, rfl⟩, rfl⟩⟩
   · rw [ai hd, ai (fun e => hd e.symm)]; exact .inr ⟨bQ, _, _, rfl, rfl, rfl, rfl⟩
 · have : k = xs.length := by omega
   subst this; exact .inl ⟨.inl (), .inl (), by simp only [b8, gC, aF, cond_false], by simp only [fk, jT, aF, cond_false], false, .inl ⟨rfl, rfl, rfl⟩⟩
theorem vA (d : Int) (xs : List (Int × Unit)) (h : xs.length ≤ 1048576) : ∃ b, du xs d = some (b, ()) ∧ dZ xs d = some (b, ()) := by
 obtain ⟨e, f, h1, h2, b, h3⟩ := Pg d xs h; unfold du dZ mf; rw [h1, h2]; rcases h3 with ⟨rfl, rfl, rfl⟩ | ⟨rfl, ⟨k, rfl⟩, rfl⟩
 · exact ⟨false, rfl, rfl⟩
 · refine ⟨true, rfl, ?_⟩; simp only [cq, Option.bind_some, aq]
def NB (t : Int × Int × Int × Int × Int × (List (Int × Unit)) × Unit) : Sum Unit (Bool × Unit) → Sum (Int × Int × Int × Int × Int × (List (Int × Unit)) × Unit) (Bool × Unit) → Prop
 | .inl _, .inl z => z = t
 | .inr a, .inr b => a.1 = false ∧ b.1 = false
 | _, _ => False
theorem H2 (c0 c1 c2 c3 c4 : Int) (xs : List (Int × Unit)) (h : xs.length ≤ 1048576) :
   ∃ e f, aE dk (c0, c1, c2, c3, c4, xs, (0 : Int), ()) = some e ∧ aE iK (c0, c1, c2, c3, c4, xs, xs, ((List.length xs : Nat) : Int), (0 : Int), ()) = some f ∧ NB (c0, c1, c2, c3, c4, xs, ()) e f := by
 refine mF xs.length (fun k x y => x = (c0, c1, c2, c3, c4, xs, ((k : Nat) : Int), ()) ∧ y = (c0, c1, c2, c3, c4, xs, xs, ((List.length xs : Nat) : Int), ((k : Nat) : Int), ())) (NB (c0, c1, c2, c3, c4, xs, ())) ?_ ⟨rfl, rfl⟩
 rintro k x y hk ⟨rfl, rfl⟩
 by_cases bQ : k < xs.length
 · simp only [dk, iE, iK, nL, az bQ, aq, cond_true, aA, List.getElem?_eq_getElem bQ, Option.bind_some, mS, sG, aK (show k < 4611686018427387904 by omega)]
   cases (decide (1 ≤ xs[k].1) && decide (xs[k].1 ≤ c2))
   · exact .inl ⟨.inr (false, ()), .inr (false, ()), rfl, rfl, rfl, rfl⟩
   · by_cases h0 : 0 < k
     · have hp : k - 1 < xs.length := by omega
       rw [oG h0 (by omega)]; simp only [ah (show (0 : Int) < ((k : Nat) : Int) by omega), Bool.not_true, cond_false, cond_true, aq, aA, List.getElem?_eq_getElem hp, Option.bind_some]
       cases decide (xs[k].1 ≤ xs[k - 1].1)
       · exact .inr ⟨bQ, _, _, rfl, rfl, rfl, rfl⟩
       · exact .inl ⟨.inr (false, ()), .inr (false, ()), rfl, rfl, rfl, rfl⟩
     · have : k = 0 := by omega
       subst this; simp only [ai (show ¬ (0 : Int) < ((0 : Nat) : Int) by omega), Bool.not_true, cond_false]; exact .inr ⟨bQ, _, _, rfl, rfl, rfl, rfl⟩
 · have : k = xs.length := by omega
   subst this; exact .inl ⟨.inl (), .inl (c0, c1, c2, c3, c4, xs, ()), by simp only [dk, iE, aF, cond_false], by simp only [iK, nL, aF, cond_false], rfl⟩
theorem sH (c0 c1 c2 c3 c4 : Int) (xs : List (Int × Unit)) (h : xs.length ≤ 1048576) : ∃ b, ck c0 c1 c2 c3 c4 xs = some (b, ()) ∧ dW c0 c1 c2 c3 c4 xs = some (b, ()) ∧ (b = true → 0 ≤ c2 ∧ c2 ≤ 60 ∧ 0 ≤ c3 ∧ c3 ≤ c2 ∧ xs.length ≤ 20 ∧ (∀ y ∈ [c0, c1], 1 ≤ y)) := by
 obtain ⟨e, f, h1, h2, h3⟩ := H2 c0 c1 c2 c3 c4 xs h; unfold ck dW; simp only [mS, sG, Option.bind_some, h1, h2]
 cases q0 : (decide (1 ≤ c0) && decide (c0 ≤ 9))
 · exact ⟨false, rfl, rfl, fun h => by cases h⟩
 cases q1 : (decide (1 ≤ c1) && decide (c1 ≤ 1000000000))
 · exact ⟨false, rfl, rfl, fun h => by cases h⟩
 cases q2 : (decide (0 ≤ c2) && decide (c2 ≤ 60))
 · exact ⟨false, rfl, rfl, fun h => by cases h⟩
 cases e with
 | inl e => cases f with
   | inl f =>
     have h3 : f = (c0, c1, c2, c3, c4, xs, ()) := h3; subst h3; simp only [cq, Option.bind_some, sG, Bool.not_true, cond_false]
     cases q3 : (decide (0 ≤ c3) && decide (c3 ≤ c2))
     · exact ⟨false, rfl, rfl, fun h => by cases h⟩
     cases (decide (0 ≤ c4) && decide (c4 ≤ 5))
     · exact ⟨false, rfl, rfl, fun h => by cases h⟩
     by_cases hl : ((List.length xs : Nat) : Int) ≤ 20
     · rw [ah hl, ai (show ¬ (20 : Int) < ((List.length xs : Nat) : Int) by omega)]; refine ⟨true, rfl, rfl, fun _ => ?_⟩; rw [Bool.and_eq_true, decide_eq_true_eq, decide_eq_true_eq] at q0 q1 q2 q3; refine ⟨q2.1, q2.2, q3.1, q3.2, by omega, fun y hy => ?_⟩; rcases List.mem_cons.1 hy with rfl | hy
       · exact q0.1
       · rcases List.mem_cons.1 hy with rfl | hy
         · exact q1.1
         · cases hy
     · rw [ai hl, ah (show (20 : Int) < ((List.length xs : Nat) : Int) by omega)]; exact ⟨false, rfl, rfl, fun h => by cases h⟩
   | inr f => exact h3.elim
 | inr e => cases f with
   | inl f => exact h3.elim
   | inr f =>
     obtain ⟨e1, e2⟩ := (show e.1 = false ∧ f.1 = false from h3); refine ⟨false, ?_, by rw [← e2]; rfl, fun h => by cases h⟩
     cases (decide (0 ≤ c3) && decide (c3 ≤ c2))
     · rfl
     cases (decide (0 ≤ c4) && decide (c4 ≤ 5))
     · rfl
     cases decide ((20 : Int) < ((List.length xs : Nat) : Int))
     · show some (e.1, ()) = some (false, ()); rw [e1]
     · rfl
theorem q7 (xs : List (Int × Unit)) (h : xs.length ≤ 1048576) : eB xs = some (xs, ()) := by
 unfold eB; rw [aH (show (0 + xs.length) * 8 ≤ lim by unfold lim; omega)]; rfl
theorem iq (c0 c1 c2 c3 c4 : Int) (xs : List (Int × Unit)) (h : xs.length ≤ 1048576) : aw c0 c1 c2 c3 c4 xs = some (c0, c1, c2, c3, c4, xs, ()) ∧ cC c0 c1 c2 c3 c4 xs = some (c0, c1, c2, c3, c4, xs, ()) := by
 constructor
 · unfold aw; rw [aH (show (0 + xs.length) * 8 ≤ lim by unfold lim; omega)]; rfl
 · unfold cC; rw [q7 xs h]; rfl
def sI (c2 : Int) (xs : List (Int × Unit)) (n : Nat) : Prop := ∀ k (h : k < xs.length), k < n → 1 ≤ xs[k].1 ∧ xs[k].1 ≤ c2 ∧ ∀ h0 : 0 < k, xs[k - 1].1 < xs[k].1
def T8 (c0 c1 c2 c3 c4 : Int) (xs : List (Int × Unit)) : Prop := (1 ≤ c0 ∧ c0 ≤ 9) ∧ (1 ≤ c1 ∧ c1 ≤ 1000000000) ∧ (0 ≤ c2 ∧ c2 ≤ 60) ∧ (0 ≤ c3 ∧ c3 ≤ c2) ∧ (0 ≤ c4 ∧ c4 ≤ 5) ∧ xs.length ≤ 20 ∧ sI c2 xs xs.length
theorem C7 (c0 c1 c2 c3 c4 : Int) (xs : List (Int × Unit)) (h : xs.length ≤ 1048576) : ∃ b, ck c0 c1 c2 c3 c4 xs = some (b, ()) ∧ dW c0 c1 c2 c3 c4 xs = some (b, ()) ∧ (b = true ↔ T8 c0 c1 c2 c3 c4 xs) := by
 obtain ⟨b, h1, h2, _⟩ := sH c0 c1 c2 c3 c4 xs h; refine ⟨b, h1, h2, ?_⟩; obtain ⟨e, he, hq⟩ := eo (round := dk) (x := (c0, c1, c2, c3, c4, xs, ((0 : Nat) : Int), ())) xs.length (fun k x => x = (c0, c1, c2, c3, c4, xs, ((k : Nat) : Int), ()) ∧ sI c2 xs k)
   (fun e => (e = .inl () ∧ sI c2 xs xs.length) ∨ (e = .inr (false, ()) ∧ ¬ sI c2 xs xs.length)) (by
     rintro x ⟨rfl, g⟩
     exact ⟨.inl (), by simp only [dk, iE, aF, cond_false], .inl ⟨rfl, g⟩⟩) (by
     rintro k x bQ ⟨rfl, g⟩
     simp only [dk, iE, az bQ, aq, cond_true, aA, List.getElem?_eq_getElem bQ, Option.bind_some, mS, aK (show k < 4611686018427387904 by omega)]; have more : 1 ≤ xs[k].1 → xs[k].1 ≤ c2 → (∀ h0 : 0 < k, xs[k - 1].1 < xs[k].1) → sI c2 xs (k + 1) := by
       intro w1 w2 w3 j hj Gq
       by_cases e : j < k
       · exact g j hj e
       · have : j = k := by omega
         subst this; exact ⟨w1, w2, w3⟩
     cases Am : (decide (1 ≤ xs[k].1) && decide (xs[k].1 ≤ c2))
     · refine .inl ⟨.inr (false, ()), rfl, .inr ⟨rfl, fun hn => ?_⟩⟩; obtain ⟨w1, w2, _⟩ := hn k bQ bQ; rw [ah w1, ah w2] at Am
       cases Am
     · rw [Bool.and_eq_true, decide_eq_true_eq, decide_eq_true_eq] at Am
       by_cases h0 : 0 < k
       · have hp : k - 1 < xs.length := by omega
         rw [oG h0 (by omega)]; simp only [ah (show (0 : Int) < ((k : Nat) : Int) by omega), Bool.not_true, cond_false, cond_true, aq, aA, List.getElem?_eq_getElem hp, Option.bind_some]
         by_cases hd : xs[k].1 ≤ xs[k - 1].1
         · rw [ah hd]; refine .inl ⟨.inr (false, ()), rfl, .inr ⟨rfl, fun hn => ?_⟩⟩; have := (hn k bQ bQ).2.2 h0; omega
         · rw [ai hd]; exact .inr ⟨_, rfl, rfl, more Am.1 Am.2 (fun _ => by omega)⟩
       · have : k = 0 := by omega
         subst this; simp only [ai (show ¬ (0 : Int) < ((0 : Nat) : Int) by omega), Bool.not_true, cond_false]; exact .inr ⟨_, rfl, rfl, more Am.1 Am.2 (fun h0 => absurd h0 (Nat.lt_irrefl 0))⟩) ⟨rfl, fun j _ h => by omega⟩
 have he : aE dk (c0, c1, c2, c3, c4, xs, (0 : Int), ()) = some e := he; unfold ck at h1; simp only [mS, Option.bind_some, he] at h1; have no : ∀ {p : Prop}, (some (false, ()) : Option (Bool × Unit)) = some (b, ()) → ¬ p → (b = true ↔ p) := by
   intro p e1 hp; injection e1 with e1; injection e1 with e1; subst e1; exact ⟨(fun h => by cases h), fun h => absurd h hp⟩
 have yes : ∀ {p : Prop}, (some (true, ()) : Option (Bool × Unit)) = some (b, ()) → p → (b = true ↔ p) := by
   intro p e1 hp; injection e1 with e1; injection e1 with e1; subst e1; exact ⟨fun _ => hp, fun _ => rfl⟩
 by_cases q0 : 1 ≤ c0 ∧ c0 ≤ 9
 case neg =>
   rw [show (decide (1 ≤ c0) && decide (c0 ≤ 9)) = false by rw [Bool.and_eq_false_iff, decide_eq_false_iff_not, decide_eq_false_iff_not]; omega] at h1; exact no h1 (fun h => q0 h.1)
 rw [ah q0.1, ah q0.2] at h1
 by_cases q1 : 1 ≤ c1 ∧ c1 ≤ 1000000000
 case neg =>
   rw [show (decide (1 ≤ c1) && decide (c1 ≤ 1000000000)) = false by rw [Bool.and_eq_false_iff, decide_eq_false_iff_not, decide_eq_false_iff_not]; omega] at h1; exact no h1 (fun h => q1 h.2.1)
 rw [ah q1.1, ah q1.2] at h1
 by_cases q2 : 0 ≤ c2 ∧ c2 ≤ 60
 case neg =>
   rw [show (decide (0 ≤ c2) && decide (c2 ≤ 60)) = false by rw [Bool.and_eq_false_iff, decide_eq_false_iff_not, decide_eq_false_iff_not]; omega] at h1; exact no h1 (fun h => q2 h.2.2.1)
 rw [ah q2.1, ah q2.2] at h1
 by_cases q3 : 0 ≤ c3 ∧ c3 ≤ c2
 case neg =>
   rw [show (decide (0 ≤ c3) && decide (c3 ≤ c2)) = false by rw [Bool.and_eq_false_iff, decide_eq_false_iff_not, decide_eq_false_iff_not]; omega] at h1; exact no h1 (fun h => q3 h.2.2.2.1)
 rw [ah q3.1, ah q3.2] at h1
 by_cases q4 : 0 ≤ c4 ∧ c4 ≤ 5
 case neg =>
   rw [show (decide (0 ≤ c4) && decide (c4 ≤ 5)) = false by rw [Bool.and_eq_false_iff, decide_eq_false_iff_not, decide_eq_false_iff_not]; omega] at h1; exact no h1 (fun h => q4 h.2.2.2.2.1)
 rw [ah q4.1, ah q4.2] at h1
 by_cases q5 : (20 : Int) < ((List.length xs : Nat) : Int)
 · rw [ah q5] at h1; exact no h1 (fun h => by have := h.2.2.2.2.2.1; omega)
 rw [ai q5] at h1; rcases hq with ⟨rfl, q⟩ | ⟨rfl, q⟩
 · exact yes h1 ⟨q0, q1, q2, q3, q4, by omega, q⟩
 · exact no h1 (fun h => q h.2.2.2.2.2.2)
theorem xP (a : Int) : jL a = some (decide (1 ≤ a) && decide (a ≤ 2), ()) := by
 unfold jL
 by_cases h1 : a = 1
 · subst h1; rfl
 by_cases h2 : a = 2
 · subst h2; rfl
 have e : (decide (1 ≤ a) && decide (a ≤ 2)) = false := by
   rw [Bool.and_eq_false_iff, decide_eq_false_iff_not, decide_eq_false_iff_not]; omega
 rw [e, ai h1, ai h2]; rfl
theorem KA (a b c : Int) (s : ByteArray) : ∃ x, gk a b c s = some (x, ()) ∧ hY a b c s = some (x, ()) := by
 unfold gk hY; simp only [mS, sG, oF, xP, Option.bind_some]
 cases (decide (1 ≤ a) && decide (a ≤ 60))
 · exact ⟨_, rfl, rfl⟩
 cases (decide (1 ≤ b) && decide (b ≤ 5))
 · exact ⟨_, rfl, rfl⟩
 cases (decide (1 ≤ c) && decide (c ≤ 2))
 · exact ⟨_, rfl, rfl⟩
 · exact ⟨_, rfl, rfl⟩
theorem H3 (xs : List (Int × Int × Int × ByteArray × Unit)) (h : xs.length ≤ 1048576) :
   ∃ e f, aE dj (xs, (0 : Int), ()) = some e ∧ aE iJ (xs, xs, ((List.length xs : Nat) : Int), (0 : Int), ()) = some f ∧ zR e f := by
 refine mF xs.length (fun k x y => x = (xs, ((k : Nat) : Int), ()) ∧ y = (xs, xs, ((List.length xs : Nat) : Int), ((k : Nat) : Int), ())) zR ?_ ⟨rfl, rfl⟩
 rintro k x y hk ⟨rfl, rfl⟩
 by_cases bQ : k < xs.length
 · obtain ⟨b, r1, r2⟩ := KA xs[k].1 xs[k].2.1 xs[k].2.2.1 xs[k].2.2.2.1; simp only [dj, iD, iJ, nK, az bQ, aq, cond_true, aA, List.getElem?_eq_getElem bQ, Option.bind_some, r1, r2, aK (show k < 4611686018427387904 by omega)]
   cases b
   · exact .inl ⟨.inr (false, ()), .inr (false, ()), rfl, rfl, rfl⟩
   · by_cases h0 : 0 < k
     · have hp : k - 1 < xs.length := by omega
       rw [oG h0 (by omega)]; simp only [ah (show (0 : Int) < ((k : Nat) : Int) by omega), Bool.not_true, cond_false, cond_true, aq, aA, List.getElem?_eq_getElem hp, Option.bind_some]
       cases decide (xs[k].1 ≤ xs[k - 1].1)
       · exact .inr ⟨bQ, _, _, rfl, rfl, rfl, rfl⟩
       · exact .inl ⟨.inr (false, ()), .inr (false, ()), rfl, rfl, rfl⟩
     · have : k = 0 := by omega
       subst this; simp only [ai (show ¬ (0 : Int) < ((0 : Nat) : Int) by omega), Bool.not_true, cond_false]; exact .inr ⟨bQ, _, _, rfl, rfl, rfl, rfl⟩
 · have : k = xs.length := by omega
   subst this; exact .inl ⟨.inl (), .inl (), by simp only [dj, iD, aF, cond_false], by simp only [iJ, nK, aF, cond_false], trivial⟩
theorem Bw (xs : List (Int × Int × Int × ByteArray × Unit)) (h : xs.length ≤ 1048576) : ∃ b, fw xs = some (b, ()) ∧ il xs = some (b, ()) := by
 obtain ⟨e, f, h1, h2, h3⟩ := H3 xs h; unfold fw il; rw [h1, h2]
 cases e with
 | inl e => cases f with
   | inl f => exact ⟨true, rfl, rfl⟩
   | inr f => exact h3.elim
 | inr e => cases f with
   | inl f => exact h3.elim
   | inr f => exact ⟨e.1, rfl, by rw [show e.1 = f.1 from h3]; rfl⟩
abbrev db : Type := Int × Int × Int × ByteArray × Unit
abbrev aI : Type := List db
def cE (xs : aI) (s : Int) : Option db := xs.find? fun r => decide (r.1 = s)
def lF : Option db → Int × Int × Int × ByteArray × Bool × Unit
 | none => (0, 0, 0, ByteArray.empty, false, ())
 | some r => (r.1, r.2.1, r.2.2.1, r.2.2.2.1, true, ())
def I1 : Option db → Sum (Int × Int × Int × ByteArray × Unit) (Int × Int × Int × ByteArray × Bool × Unit)
 | none => .inl (0, 0, 0, ByteArray.empty, ())
 | some r => .inr (lF (some r))
theorem C8 (xs : aI) (s : Int) {k : Nat} (hk : k < xs.length) : cE (xs.drop k) s = if xs[k].1 = s then some xs[k] else cE (xs.drop (k + 1)) s := by
 unfold cE; rw [List.drop_eq_getElem_cons hk, List.find?_cons]
 by_cases h : xs[k].1 = s
 · rw [ah h, if_pos h]
 · rw [ai h, if_neg h]
theorem mT (xs : aI) (s : Int) (h : xs.length ≤ 1048576) : fA xs s = some (lF (cE xs s)) := by
 have hl := qP (round := gS) (n := xs.length) (fun k => (xs, s, (0 : Int), (0 : Int), (0 : Int), ByteArray.empty, ((k : Nat) : Int), ())) (fun k => some (I1 (cE (xs.drop k) s)))
   ⟨.inl (0, 0, 0, ByteArray.empty, ()), by simp only [gS, pa, aF, cond_false], by rw [List.drop_length]; rfl⟩ (fun k hk => by
     rw [C8 xs s hk]; simp only [gS, pa, az hk, aq, cond_true, aA, List.getElem?_eq_getElem hk, Option.bind_some, aK (show k < 4611686018427387904 by omega)]
     by_cases h : xs[k].1 = s
     · rw [ah h, if_pos h]; exact .inl ⟨_, rfl, rfl⟩
     · rw [ai h, if_neg h]; exact .inr ⟨rfl, rfl⟩) 0 (Nat.zero_le _)
 unfold fA; have hl : aE gS (xs, s, (0 : Int), (0 : Int), (0 : Int), ByteArray.empty, (0 : Int), ()) = _ := hl; rw [hl, List.drop_zero]
 cases cE xs s <;> rfl
theorem qe (xs : aI) (s : Int) (h : xs.length ≤ 1048576) : jx xs s = some (lF (cE xs s)) := by
 have hl := qP (round := gX) (n := xs.length) (fun k => (s, (0 : Int), (0 : Int), (0 : Int), ByteArray.empty, xs, ((List.length xs : Nat) : Int), ((k : Nat) : Int), ())) (fun k => some (I1 (cE (xs.drop k) s)))
   ⟨.inl (0, 0, 0, ByteArray.empty, ()), by simp only [gX, pw, aF, cond_false], by rw [List.drop_length]; rfl⟩ (fun k hk => by
     rw [C8 xs s hk]; simp only [gX, pw, az hk, aq, cond_true, aA, List.getElem?_eq_getElem hk, Option.bind_some, aK (show k < 4611686018427387904 by omega)]
     by_cases h : xs[k].1 = s
     · rw [ah h, if_pos h]; exact .inl ⟨_, rfl, rfl⟩
     · rw [ai h, if_neg h]; exact .inr ⟨rfl, rfl⟩) 0 (Nat.zero_le _)
 unfold jx; have hl : aE gX (s, (0 : Int), (0 : Int), (0 : Int), ByteArray.empty, xs, ((List.length xs : Nat) : Int), (0 : Int), ()) = _ := hl; rw [hl, List.drop_zero]
 cases cE xs s <;> rfl
theorem zq : (n : Nat) → (ys : List Int) → (∀ i, i < n → ((i + 1 : Nat) : Int) ∈ ys) → n ≤ ys.length
 | 0, _, _ => Nat.zero_le _
 | n + 1, ys, h => by
   have hm := h n (by omega); have := zq n (ys.erase ((n + 1 : Nat) : Int)) (fun i hi => (List.mem_erase_of_ne (by omega)).2 (h i (by omega))); rw [List.length_erase_of_mem hm] at this; have : 0 < ys.length := List.length_pos_of_mem hm; omega
theorem H4 {xs : aI} {s : Int} {r : db} (h : cE xs s = some r) : r ∈ xs ∧ r.1 = s := by
 unfold cE at h; exact ⟨List.mem_of_find?_eq_some h, by have := List.find?_some h; simpa using this⟩
def I2 (xs : aI) (n : Nat) : Prop := n ≤ xs.length ∧ (∀ i, i < n → (cE xs ((i + 1 : Nat) : Int)).isSome = true) ∧ cE xs ((n + 1 : Nat) : Int) = none
theorem Ph {xs : aI} (h : ∀ i, i < xs.length → (cE xs ((i + 1 : Nat) : Int)).isSome = true) : cE xs ((xs.length + 1 : Nat) : Int) = none := by
 cases hq : cE xs ((xs.length + 1 : Nat) : Int) with
 | none => rfl
 | some r =>
   have key := zq (xs.length + 1) (xs.map (·.1)) (fun i hi => by
     have : ∃ r, cE xs ((i + 1 : Nat) : Int) = some r := by
       by_cases Oi : i < xs.length
       · exact Option.isSome_iff_exists.1 (h i Oi)
       · have : i = xs.length := by omega
         subst this; exact ⟨r, hq⟩
     obtain ⟨r', hr⟩ := this; obtain ⟨m1, m2⟩ := H4 hr; exact List.mem_map.2 ⟨r', m1, m2⟩)
   rw [List.length_map] at key; omega
theorem Bx (xs : aI) (h : xs.length ≤ 1048576) : ∃ n : Nat, eA xs = some (((n : Nat) : Int), ()) ∧ gG xs = some (((n : Nat) : Int), ()) ∧ I2 xs n := by
 obtain ⟨e, f, h1, h2, n, h3⟩ : ∃ e f, aE mo (xs, (0 : Int), (0 : Int), ()) = some e ∧ aE mw (xs, (0 : Int), ()) = some f ∧ ∃ n : Nat, (e = .inl (((n : Nat) : Int), ()) ∨ e = .inr (((n : Nat) : Int), ())) ∧ f = .inr (((n : Nat) : Int), ()) ∧ I2 xs n := by
   refine mF xs.length (fun k x y => x = (xs, ((k : Nat) : Int), ((k : Nat) : Int), ()) ∧ y = (xs, ((k : Nat) : Int), ()) ∧ ∀ i, i < k → (cE xs ((i + 1 : Nat) : Int)).isSome = true) _ ?_ ⟨rfl, rfl, fun i hi => by omega⟩
   rintro k x y hk ⟨rfl, rfl, oS⟩
   simp only [mo, vv, mw, vz, aK (show k < 4611686018427387904 by omega), mT xs _ h, qe xs _ h, Option.bind_some]
   by_cases bQ : k < xs.length
   · rw [az bQ]
     cases hq : cE xs ((k + 1 : Nat) : Int) with
     | none => exact .inl ⟨.inr (((k : Nat) : Int), ()), .inr (((k : Nat) : Int), ()), rfl, rfl, k, .inr rfl, rfl, hk, oS, hq⟩
     | some r =>
       refine .inr ⟨bQ, _, _, rfl, rfl, rfl, rfl, fun i hi => ?_⟩
       by_cases Oi : i < k
       · exact oS i Oi
       · have : i = k := by omega
         subst this; rw [hq]; rfl
   · have : k = xs.length := by omega
     subst this; have hq := Ph oS; rw [aF, hq]; exact .inl ⟨.inl (((xs.length : Nat) : Int), ()), .inr (((xs.length : Nat) : Int), ()), rfl, rfl, xs.length, .inl rfl, rfl, hk, oS, hq⟩
 obtain ⟨h3, rfl, h4⟩ := h3; unfold eA gG; rw [h1, h2]; refine ⟨n, ?_, rfl, h4⟩; rcases h3 with rfl | rfl <;> rfl
theorem D7 (xs : List (Int × Unit)) (d : Int) (h : xs.length ≤ 1048576) : du xs d = some (decide ((d, ()) ∈ xs), ()) := by
 have hl := qP (round := b8) (n := xs.length) (fun k => (xs, d, ((k : Nat) : Int), ())) (fun k => some (if (d, ()) ∈ xs.drop k then .inr (true, ()) else .inl ()))
   ⟨.inl (), by simp only [b8, gC, aF, cond_false], by rw [List.drop_length]; rfl⟩ (fun k hk => by
     rw [List.drop_eq_getElem_cons hk]; simp only [b8, gC, az hk, aq, cond_true, aA, List.getElem?_eq_getElem hk, Option.bind_some, aK (show k < 4611686018427387904 by omega)]
     by_cases e : xs[k].1 = d
     · rw [ah e]; exact .inl ⟨_, rfl, by rw [if_pos (List.mem_cons.2 (.inl (by rw [← e])))]⟩
     · rw [ai e]; refine .inr ⟨rfl, ?_⟩; have : ((d, ()) ∈ xs[k] :: xs.drop (k + 1)) ↔ ((d, ()) ∈ xs.drop (k + 1)) := by
         rw [List.mem_cons]; exact ⟨fun h => h.resolve_left (fun q => e (by rw [← q])), .inr⟩
       by_cases q : (d, ()) ∈ xs.drop (k + 1)
       · rw [if_pos q, if_pos (this.2 q)]
       · rw [if_neg q, if_neg (fun z => q (this.1 z))]) 0 (Nat.zero_le _)
 unfold du; have hl : aE b8 (xs, d, (0 : Int), ()) = _ := hl; rw [hl, List.drop_zero]
 by_cases q : (d, ()) ∈ xs
 · rw [if_pos q, ah q]; rfl
 · rw [if_neg q, ai q]; rfl
def sY (l : List (Int × Unit)) (n : Nat) : Prop := ∀ j (h : j < l.length), j < n → (decide (1 ≤ l[j].1) && decide (l[j].1 ≤ 2)) = true
def gO (l : List (ByteArray × Unit)) (n : Nat) : Prop := ∀ j (h : j < l.length), j < n → ByteArray.size l[j].1 ≤ 60
def NC (lv : List (Int × Unit)) (tx : List (ByteArray × Unit)) : Sum (List (Int × Unit) × List (ByteArray × Unit) × Unit) (Bool × Unit) → Prop
 | .inl y => y = (lv, tx, ()) ∧ sY lv (min lv.length tx.length) ∧ gO tx (min lv.length tx.length)
 | .inr b => b.1 = false ∧ ¬ (sY lv (min lv.length tx.length) ∧ gO tx (min lv.length tx.length))
theorem By (lv : List (Int × Unit)) (tx : List (ByteArray × Unit)) (h1 : lv.length ≤ 1048576) (h2 : tx.length ≤ 1048576) : ∃ b, mn lv tx = some (b, ()) ∧ (b = true ↔ tx.length ≤ 20 ∧ lv.length = tx.length ∧ sY lv lv.length ∧ gO tx tx.length) := by
 obtain ⟨e, he, hq⟩ := eo (round := fF) (x := (lv, tx, ((0 : Nat) : Int), ())) (min lv.length tx.length) (fun k x => x = (lv, tx, ((k : Nat) : Int), ()) ∧ sY lv k ∧ gO tx k) (NC lv tx) (by
     rintro x ⟨rfl, g1, g2⟩
     refine ⟨.inl (lv, tx, ()), ?_, rfl, g1, g2⟩
     by_cases hb : min lv.length tx.length < tx.length
     · have e : min lv.length tx.length = lv.length := by omega
       simp only [fF, jF, az hb, cond_true]; rw [e, aF]; rfl
     · have e : min lv.length tx.length = tx.length := by omega
       simp only [fF, jF]; rw [e, aF]; rfl) (by
     rintro k x hk ⟨rfl, g1, g2⟩
     have hl : k < lv.length := by omega
     have ht : k < tx.length := by omega
     simp only [fF, jF, az hl, az ht, aq, cond_true, aA, List.getElem?_eq_getElem hl, List.getElem?_eq_getElem ht, Option.bind_some, mS, aK (show k < 4611686018427387904 by omega)]
     cases XG : (decide (1 ≤ lv[k].1) && decide (lv[k].1 ≤ 2))
     · refine .inl ⟨.inr (false, ()), rfl, rfl, fun hn => ?_⟩; have := hn.1 k hl (by omega); rw [XG] at this
       cases this
     · by_cases hs : (60 : Int) < ((ByteArray.size tx[k].1 : Nat) : Int)
       · rw [ah hs]; refine .inl ⟨.inr (false, ()), rfl, rfl, fun hn => ?_⟩; have := hn.2 k ht (by omega); omega
       · rw [ai hs]; refine .inr ⟨_, rfl, rfl, fun j hj Gq => ?_, fun j hj Gq => ?_⟩
         · by_cases e : j < k
           · exact g1 j hj e
           · have : j = k := by omega
             subst this; exact XG
         · by_cases e : j < k
           · exact g2 j hj e
           · have : j = k := by omega
             subst this; omega) ⟨rfl, fun j _ h => by omega, fun j _ h => by omega⟩
 unfold mn; rw [show (0 : Int) = ((0 : Nat) : Int) from rfl, he]
 cases e with
 | inr e =>
   obtain ⟨q1, q2⟩ := hq; refine ⟨false, by rw [← q1]; rfl, ⟨(fun h => by cases h), fun ⟨w1, w2, w3, w4⟩ => ?_⟩⟩; exact absurd ⟨fun j hj hm => w3 j hj hj, fun j hj hm => w4 j hj hj⟩ q2
 | inl e =>
   obtain ⟨q1, q2, q3⟩ := hq; subst q1; simp only [iz]
   by_cases w1 : ((List.length tx : Nat) : Int) ≤ 20
   · rw [ah w1]; refine ⟨_, rfl, ?_⟩; rw [decide_eq_true_eq]
     constructor
     · intro w2; have w2 : lv.length = tx.length := by omega
       exact ⟨by omega, w2, fun j hj _ => q2 j hj (by omega), fun j hj _ => q3 j hj (by omega)⟩
     · rintro ⟨_, w2, _⟩
       rw [w2]
   · rw [ai w1]; exact ⟨false, rfl, ⟨(fun h => by cases h), fun ⟨w2, _⟩ => by omega⟩⟩
theorem H5 (tx : List (ByteArray × Unit)) (h2 : tx.length ≤ 1048576) : ∃ b, mr tx = some (b, ()) ∧ (b = true ↔ gO tx tx.length) := by
 obtain ⟨e, he, hq⟩ := eo (round := gW) (x := (tx, ((List.length tx : Nat) : Int), ((0 : Nat) : Int), ())) tx.length (fun k x => x = (tx, ((List.length tx : Nat) : Int), ((k : Nat) : Int), ()) ∧ gO tx k) (fun e => (e = .inl () ∧ gO tx tx.length) ∨ (e = .inr (false, ()) ∧ ¬ gO tx tx.length)) (by
     rintro x ⟨rfl, g2⟩
     exact ⟨.inl (), by simp only [gW, mg, aF, cond_false], .inl ⟨rfl, g2⟩⟩) (by
     rintro k x hk ⟨rfl, g2⟩
     simp only [gW, mg, az hk, aq, cond_true, aA, List.getElem?_eq_getElem hk, Option.bind_some, aK (show k < 4611686018427387904 by omega)]
     by_cases hs : (60 : Int) < ((ByteArray.size tx[k].1 : Nat) : Int)
     · rw [ah hs]; refine .inl ⟨.inr (false, ()), rfl, .inr ⟨rfl, fun hn => ?_⟩⟩; have := hn k hk hk; omega
     · rw [ai hs]; refine .inr ⟨_, rfl, rfl, fun j hj Gq => ?_⟩
       by_cases e : j < k
       · exact g2 j hj e
       · have : j = k := by omega
         subst this; omega) ⟨rfl, fun j _ h => by omega⟩
 unfold mr; rw [show (0 : Int) = ((0 : Nat) : Int) from rfl, he]; rcases hq with ⟨rfl, q⟩ | ⟨rfl, q⟩
 · exact ⟨true, rfl, ⟨fun _ => q, fun _ => rfl⟩⟩
 · exact ⟨false, rfl, ⟨(fun h => by cases h), fun h => absurd h q⟩⟩
theorem Bz (c0 c1 c2 c3 c4 : Int) (xs : List (Int × Unit)) : ∃ b, dL c0 c1 c2 c3 c4 xs = some (b, ()) ∧ dV c0 c1 c2 c3 c4 xs = some (b, ()) := by
 unfold dL lq dV
 cases decide (c0 = 0)
 · exact ⟨_, rfl, rfl⟩
 cases decide (c1 = 0)
 · exact ⟨_, rfl, rfl⟩
 cases decide (c2 = 0)
 · exact ⟨_, rfl, rfl⟩
 cases decide (c3 = 0)
 · exact ⟨_, rfl, rfl⟩
 cases decide (c4 = 0)
 · exact ⟨_, rfl, rfl⟩
 cases xs with
 | nil =>
   have hl := ek (round := fj) (e := .inl ()) 0 (fun k => (([] : List (Int × Unit)), ([] : List (Int × Unit)), ((k : Nat) : Int), ())) (by
     simp only [fj, nT, List.length_nil, aF, cond_false]) (fun k hk => by omega)
   have hl : aE fj (([] : List (Int × Unit)), ([] : List (Int × Unit)), (0 : Int), ()) = _ := hl; refine ⟨true, ?_, rfl⟩; simp only [cond_true, jG, List.length_nil, decide_true, Bool.not_true, cond_false, hl, iz, Option.bind_some]
 | cons x xs =>
   have e : decide (((List.length (x :: xs) : Nat) : Int) = (0 : Int)) = false := ai (by rw [List.length_cons]; omega); have e2 : decide (((List.length (x :: xs) : Nat) : Int) = ((List.length ([] : List (Int × Unit)) : Nat) : Int)) = false := e; refine ⟨false, ?_, ?_⟩
   · simp only [cond_true, jG, e2, Bool.not_false, Option.bind_some]
   · simp only [cond_true, e]
abbrev QG : Type := Int × Int × (List (Int × Unit)) × aI × (List (Int × Unit)) × (List (ByteArray × Unit)) × Int × Int × Int × Int × Int × Int × Int × Int × Int × (List (Int × Unit)) × Unit
def T9 (m : QG) (lv : List (Int × Unit)) : Sum QG (Bool × Unit) → Prop
 | .inl y => y = m ∧ sY lv lv.length
 | .inr b => b.1 = false ∧ ¬ sY lv lv.length
theorem F3 (cK : Int) (cL : Int) (cg : List (Int × Unit)) (bY : List (Int × Int × Int × ByteArray × Unit)) (bO : List (Int × Unit)) (bZ : List (ByteArray × Unit)) (cZ : Int) (dH : Int) (dI : Int) (dJ : Int) (bw : Int) (bz : Int) (bA : Int) (bB : Int) (bC : Int) (bm : List (Int × Unit))
   (h0 : (List.length cg + wl Es cg) + (List.length bY + wl nO bY) + (List.length bO + wl Es bO) + (List.length bZ + wl UJ bZ) + (List.length bm + wl Es bm) ≤ 1048576) : ∃ o0, eN cK cL cg bY bO bZ cZ dH dI dJ bw bz bA bB bC bm = some (o0, ()) ∧ eP cK cL cg bY bO bZ cZ dH dI dJ bw bz bA bB bC bm = some (o0, ()) := by
 obtain ⟨b1, r1, r2, _⟩ := C6 cL cg (by omega); obtain ⟨b2, c1, c2⟩ := vA cK cg (by omega); obtain ⟨b3, i1, i2⟩ := Bw bY (by omega); obtain ⟨b4, t1, t2⟩ := By bO bZ (by omega) (by omega); obtain ⟨b5, s1, s2⟩ := H5 bZ (by omega); obtain ⟨n, a1, a2, _⟩ := Bx bY (by omega); obtain ⟨b6, z1, z2⟩ := Bz bw bz bA bB bC bm; obtain ⟨b7, k1, k2, _⟩ := sH bw bz bA bB bC bm (by omega); obtain ⟨e, he, hq⟩ := eo (round := gY) (x := (cK, cL, cg, bY, bO, bZ, cZ, dH, dI, dJ, bw, bz, bA, bB, bC, bm, bO, ((List.length bO : Nat) : Int), ((0 : Nat) : Int), ())) bO.length
   (fun k x => x = (cK, cL, cg, bY, bO, bZ, cZ, dH, dI, dJ, bw, bz, bA, bB, bC, bm, bO, ((List.length bO : Nat) : Int), ((k : Nat) : Int), ()) ∧ sY bO k)
   (T9 (cK, cL, cg, bY, bO, bZ, cZ, dH, dI, dJ, bw, bz, bA, bB, bC, bm, ()) bO) (by
     rintro x ⟨rfl, g⟩
     exact ⟨.inl _, by simp only [gY, px, aF, cond_false], rfl, g⟩) (by
     rintro k x hk ⟨rfl, g⟩
     simp only [gY, px, az hk, aq, cond_true, aA, List.getElem?_eq_getElem hk, Option.bind_some, xP, aK (show k < 4611686018427387904 by omega)]
     cases XG : (decide (1 ≤ bO[k].1) && decide (bO[k].1 ≤ 2))
     · refine .inl ⟨.inr (false, ()), rfl, rfl, fun hn => ?_⟩; have := hn k hk hk; rw [XG] at this
       cases this
     · refine .inr ⟨_, rfl, rfl, fun j hj Gq => ?_⟩
       by_cases e : j < k
       · exact g j hj e
       · have : j = k := by omega
         subst this; exact XG) ⟨rfl, fun j _ h => by omega⟩
 have he : aE gY (cK, cL, cg, bY, bO, bZ, cZ, dH, dI, dJ, bw, bz, bA, bB, bC, bm, bO, ((List.length bO : Nat) : Int), (0 : Int), ()) = some e := he; unfold eN eP; simp only [r1, r2, c1, c2, i1, i2, t1, s1, Option.bind_some, he]
 cases b1
 · cases b2
   · exact ⟨_, rfl, rfl⟩
   · exact ⟨_, rfl, rfl⟩
 cases b2
 · exact ⟨_, rfl, rfl⟩
 cases b3
 · exact ⟨_, rfl, rfl⟩
 simp only [Bool.not_true, cond_false]
 by_cases w1 : (20 : Int) < ((List.length bZ : Nat) : Int)
 · have : b4 = false := by
     cases b4
     · rfl
     · have := (t2.1 rfl).1; omega
   subst this; rw [ah w1]; exact ⟨_, rfl, rfl⟩
 rw [ai w1]
 cases b5
 · have : b4 = false := by
     cases b4
     · rfl
     · have := s2.2 (t2.1 rfl).2.2.2; cases this
   subst this; exact ⟨_, rfl, rfl⟩
 by_cases w2 : ((List.length bO : Nat) : Int) = ((List.length bZ : Nat) : Int)
 case neg =>
   have : b4 = false := by
     cases b4
     · rfl
     · have := (t2.1 rfl).2.1; omega
   subst this; rw [ai w2]; exact ⟨_, rfl, rfl⟩
 rw [ah w2]
 cases e with
 | inr e =>
   obtain ⟨q1, q2⟩ := hq; have : b4 = false := by
     cases b4
     · rfl
     · exact absurd (t2.1 rfl).2.2.1 q2
   subst this; refine ⟨false, rfl, ?_⟩; show some (e.1, ()) = _; rw [q1]
 | inl e =>
   obtain ⟨q1, q2⟩ := hq; subst q1; have : b4 = true := t2.2 ⟨by omega, by omega, q2, s2.1 rfl⟩; subst this; simp only [Bool.not_true, cond_false, iz, a1, a2, z1, z2, k1, k2, mS, sG, Option.bind_some]
   cases (decide (0 ≤ cZ) && decide (cZ ≤ 1000000000))
   · exact ⟨_, rfl, rfl⟩
   cases (decide (0 ≤ dH) && decide (dH ≤ 60))
   · exact ⟨_, rfl, rfl⟩
   cases (decide (0 ≤ dI) && decide (dI ≤ ((n : Nat) : Int)))
   · exact ⟨_, rfl, rfl⟩
   cases (decide (0 ≤ dJ) && decide (dJ ≤ ((n : Nat) : Int)))
   · exact ⟨_, rfl, rfl⟩
   cases b6
   · exact ⟨_, rfl, rfl⟩
   · exact ⟨_, rfl, rfl⟩
def kc (r : db) : Prop := (1 ≤ r.1 ∧ r.1 ≤ 60) ∧ (1 ≤ r.2.1 ∧ r.2.1 ≤ 5) ∧ (1 ≤ r.2.2.1 ∧ r.2.2.1 ≤ 2) ∧ ByteArray.size r.2.2.2.1 ≤ 60
def gH (xs : aI) (n : Nat) : Prop := ∀ k (h : k < xs.length), k < n → kc xs[k] ∧ ∀ h0 : 0 < k, xs[k - 1].1 < xs[k].1
theorem F4 (a b c : Int) (s : ByteArray) : ∃ x, gk a b c s = some (x, ()) ∧ hY a b c s = some (x, ()) ∧ (x = true ↔ kc (a, b, c, s, ())) := by
 have hi : ∀ {p q r : Prop} [Decidable p] [Decidable q], (decide p && decide q) = false → ¬ ((p ∧ q) ∧ r) := by
   intro p q r _ _ h ⟨h1, _⟩; rw [decide_eq_true h1.1, decide_eq_true h1.2] at h
   cases h
 unfold gk hY kc; simp only [mS, sG, oF, xP, Option.bind_some]
 cases h1 : (decide (1 ≤ a) && decide (a ≤ 60))
 · exact ⟨false, rfl, rfl, ⟨fun h => (by cases h), fun h => absurd h (hi h1)⟩⟩
 rw [Bool.and_eq_true, decide_eq_true_eq, decide_eq_true_eq] at h1
 cases h2 : (decide (1 ≤ b) && decide (b ≤ 5))
 · exact ⟨false, rfl, rfl, ⟨fun h => (by cases h), fun h => absurd h.2 (hi h2)⟩⟩
 rw [Bool.and_eq_true, decide_eq_true_eq, decide_eq_true_eq] at h2
 cases h3 : (decide (1 ≤ c) && decide (c ≤ 2))
 · exact ⟨false, rfl, rfl, ⟨fun h => (by cases h), fun h => absurd h.2.2 (hi h3)⟩⟩
 rw [Bool.and_eq_true, decide_eq_true_eq, decide_eq_true_eq] at h3; refine ⟨_, rfl, rfl, ?_⟩; rw [decide_eq_true_eq]; exact ⟨fun h => ⟨h1, h2, h3, by omega⟩, fun h => by have := h.2.2.2; omega⟩
theorem KB (xs : aI) (h : xs.length ≤ 1048576) : ∃ b, fw xs = some (b, ()) ∧ il xs = some (b, ()) ∧ (b = true ↔ gH xs xs.length) := by
 obtain ⟨b, h1, h2⟩ := Bw xs h; refine ⟨b, h1, h2, ?_⟩; obtain ⟨e, he, hq⟩ := eo (round := dj) (x := (xs, ((0 : Nat) : Int), ())) xs.length (fun k x => x = (xs, ((k : Nat) : Int), ()) ∧ gH xs k) (fun e => (e = .inl () ∧ gH xs xs.length) ∨ (e = .inr (false, ()) ∧ ¬ gH xs xs.length)) (by
     rintro x ⟨rfl, g⟩
     exact ⟨.inl (), by simp only [dj, iD, aF, cond_false], .inl ⟨rfl, g⟩⟩) (by
     rintro k x hk ⟨rfl, g⟩
     obtain ⟨b, r1, _, r3⟩ := F4 xs[k].1 xs[k].2.1 xs[k].2.2.1 xs[k].2.2.2.1; have r3 : b = true ↔ kc xs[k] := r3; simp only [dj, iD, az hk, aq, cond_true, aA, List.getElem?_eq_getElem hk, Option.bind_some, r1, aK (show k < 4611686018427387904 by omega)]; have more : kc xs[k] → (∀ h0 : 0 < k, xs[k - 1].1 < xs[k].1) → gH xs (k + 1) := fun q1 q2 j hj Gq => by
       by_cases e : j < k
       · exact g j hj e
       · have : j = k := by omega
         subst this; exact ⟨q1, q2⟩
     cases b
     · exact .inl ⟨.inr (false, ()), rfl, .inr ⟨rfl, fun hn => absurd (r3.2 (hn k hk hk).1) (by simp)⟩⟩
     · have q1 := r3.1 rfl
       by_cases h0 : 0 < k
       · have hp : k - 1 < xs.length := by omega
         rw [oG h0 (by omega)]; simp only [ah (show (0 : Int) < ((k : Nat) : Int) by omega), Bool.not_true, cond_false, cond_true, aq, aA, List.getElem?_eq_getElem hp, Option.bind_some]
         by_cases hs : xs[k].1 ≤ xs[k - 1].1
         · rw [ah hs]; refine .inl ⟨.inr (false, ()), rfl, .inr ⟨rfl, fun hn => ?_⟩⟩; have := (hn k hk hk).2 h0; omega
         · rw [ai hs]; exact .inr ⟨_, rfl, rfl, more q1 (fun _ => by omega)⟩
       · have : k = 0 := by omega
         subst this; simp only [ai (show ¬ (0 : Int) < ((0 : Nat) : Int) by omega), Bool.not_true, cond_false]; exact .inr ⟨_, rfl, rfl, more q1 (fun h => absurd h (by omega))⟩) ⟨rfl, fun j _ h => by omega⟩
 have he : aE dj (xs, (0 : Int), ()) = some e := he; unfold fw at h1; rw [he] at h1; rcases hq with ⟨rfl, g⟩ | ⟨rfl, g⟩
 · injection h1 with h1; injection h1 with h1 _; exact ⟨fun _ => g, fun _ => h1.symm⟩
 · injection h1 with h1; injection h1 with h1 _; subst h1; exact ⟨fun h => (by cases h), fun h => absurd h g⟩
theorem ND {α : Type} (f : α → Nat) (c : Nat) : (xs : List α) → (∀ x ∈ xs, f x ≤ c) → wl f xs ≤ c * xs.length
 | [], _ => Nat.zero_le _
 | x :: xs, h => by
   rw [OO, List.length_cons, Nat.mul_succ]; have := ND f c xs (fun y hy => h y (List.mem_cons_of_mem _ hy)); have := h x List.mem_cons_self; omega
theorem C9 (xs : aI) (h : gH xs xs.length) : ∀ k (hk : k < xs.length), ((k + 1 : Nat) : Int) ≤ xs[k].1
 | 0, hk => by have := (h 0 hk hk).1.1.1; omega
 | k + 1, hk => by
   have h1 := C9 xs h k (by omega); have h2 := (h (k + 1) hk hk).2 (by omega); have h2 : xs[k].1 < xs[k + 1].1 := h2; omega
theorem cf (xs : aI) (h : gH xs xs.length) : xs.length ≤ 60 ∧ wl nO xs ≤ 3600 := by
 have h1 : xs.length ≤ 60 := by
   by_cases h0 : 0 < xs.length
   · have := C9 xs h (xs.length - 1) (by omega); have := (h (xs.length - 1) (by omega) (by omega)).1.1.2; omega
   · omega
 refine ⟨h1, Nat.le_trans (ND nO 60 xs fun x hx => ?_) (by omega)⟩; obtain ⟨k, hk, rfl⟩ := List.mem_iff_getElem.1 hx; exact (h k hk hk).1.2.2.2
theorem zr (xs : List (ByteArray × Unit)) (h : gO xs xs.length) : wl UJ xs ≤ 60 * xs.length := by
 refine ND UJ 60 xs fun x hx => ?_
 obtain ⟨k, hk, rfl⟩ := List.mem_iff_getElem.1 hx; exact h k hk hk
structure QH (c0 c1 : Int) (c2 : List (Int × Unit)) (c3 : aI) (c4 : List (Int × Unit)) (c5 : List (ByteArray × Unit)) (c6 c7 c8 c9 : Int) (XH : List (Int × Unit)) : Prop where
 ring : 1 ≤ c2.length ∧ c2.length ≤ 5
 items : gH c3 c3.length
 texts : c5.length ≤ 20 ∧ c4.length = c5.length
 Pj : sY c4 c4.length
 short : gO c5 c5.length
 round : 0 ≤ c6 ∧ c6 ≤ 1000000000
 seen : 0 ≤ c7 ∧ c7 ≤ 60
 aru : ∃ n : Nat, eA c3 = some (((n : Nat) : Int), ()) ∧ gG c3 = some (((n : Nat) : Int), ()) ∧ I2 c3 n ∧ (0 ≤ c8 ∧ c8 ≤ ((n : Nat) : Int)) ∧ 0 ≤ c9 ∧ c9 ≤ ((n : Nat) : Int)
 XI : XH.length ≤ 20
theorem wN {p q : Prop} [Decidable p] [Decidable q] (h : (decide p && decide q) = true) : p ∧ q := by
 rw [Bool.and_eq_true, decide_eq_true_eq, decide_eq_true_eq] at h; exact h
theorem QH.small {c0 c1 : Int} {c2 : List (Int × Unit)} {c3 : aI} {c4 : List (Int × Unit)} {c5 : List (ByteArray × Unit)} {c6 c7 c8 c9 : Int} {XH : List (Int × Unit)} (h : QH c0 c1 c2 c3 c4 c5 c6 c7 c8 c9 XH) :
   (List.length c2 + wl Es c2) + (List.length c3 + wl nO c3) + (List.length c4 + wl Es c4) + (List.length c5 + wl UJ c5) + (List.length XH + wl Es XH) ≤ 5000 := by
 have h1 := cf c3 h.items; have h2 := zr c5 h.short; have h3 := h.texts; have h4 := h.ring; have h5 := h.XI; rw [uR Es (fun _ => rfl), uR Es (fun _ => rfl), uR Es (fun _ => rfl)]; omega
theorem zt (xs : aI) (h : xs.length ≤ 1048576) : dX xs = some (xs, ()) := by
 unfold dX; rw [aH (show (0 + xs.length) * 40 ≤ lim by unfold lim; omega)]; rfl
theorem D8 (xs : List (ByteArray × Unit)) (h : xs.length ≤ 1048576) : gN xs = some (xs, ()) := by
 unfold gN; rw [aH (show (0 + xs.length) * 16 ≤ lim by unfold lim; omega)]; rfl
theorem kQ (cK : Int) (cL : Int) (cg : List (Int × Unit)) (bY : aI) (bO : List (Int × Unit)) (bZ : List (ByteArray × Unit)) (cZ : Int) (dH : Int) (dI : Int) (dJ : Int) (bw : Int) (bz : Int) (bA : Int) (bB : Int) (bC : Int) (bm : List (Int × Unit))
   (h0 : (List.length cg + wl Es cg) + (List.length bY + wl nO bY) + (List.length bO + wl Es bO) + (List.length bZ + wl UJ bZ) + (List.length bm + wl Es bm) ≤ 1048576) :
   fx cK cL cg bY bO bZ cZ dH dI dJ bw bz bA bB bC bm = some (cK, cL, cg, bY, bO, bZ, cZ, dH, dI, dJ, bw, bz, bA, bB, bC, bm, ()) ∧
   fB cK cL cg bY bO bZ cZ dH dI dJ bw bz bA bB bC bm = some (cK, cL, cg, bY, bO, bZ, cZ, dH, dI, dJ, bw, bz, bA, bB, bC, bm, ()) := by
 obtain ⟨t1, t2⟩ := iq bw bz bA bB bC bm (by omega)
 constructor
 · unfold fx; rw [aH (show (0 + cg.length) * 8 ≤ lim by unfold lim; omega), aH (show (0 + bY.length) * 40 ≤ lim by unfold lim; omega), aH (show (0 + bO.length) * 8 ≤ lim by unfold lim; omega), aH (show (0 + bZ.length) * 16 ≤ lim by unfold lim; omega), t1]; rfl
 · unfold fB qw; rw [q7 cg (by omega), zt bY (by omega), q7 bO (by omega), D8 bZ (by omega), t2]; rfl
abbrev dn : Type := List (Int × Unit)
abbrev jU : Type := Int × Int × Int × Int × Int × dn × Unit
abbrev ee : Type := Int × Int × dn × aI × dn × (List (ByteArray × Unit)) × Int × Int × Int × Int × Int × Int × Int × Int × Int × dn × Unit
def H6 (xs : dn) (n : Nat) : Prop := ∀ k (h : k < xs.length), k < n → (1 ≤ xs[k].1 ∧ xs[k].1 ≤ 5) ∧ ∀ h0 : 0 < k, xs[k - 1].1 < xs[k].1
def pG (c : Int) (xs : dn) : Prop := (1 ≤ c ∧ c ≤ 9) ∧ (1 ≤ xs.length ∧ xs.length ≤ 5) ∧ H6 xs xs.length
theorem NF (c : Int) (xs : dn) (h : xs.length ≤ 1048576) : ∃ b, ca c xs = some (b, ()) ∧ kP c xs = some (b, ()) ∧ (b = true ↔ pG c xs) := by
 obtain ⟨b, h1, h2, _⟩ := C6 c xs h; refine ⟨b, h1, h2, ?_⟩; obtain ⟨e, he, hq⟩ := eo (round := dQ) (x := (c, xs, ((0 : Nat) : Int), ())) xs.length (fun k x => x = (c, xs, ((k : Nat) : Int), ()) ∧ H6 xs k) (fun e => (e = .inl () ∧ H6 xs xs.length) ∨ (e = .inr (false, ()) ∧ ¬ H6 xs xs.length)) (by
     rintro x ⟨rfl, g⟩
     exact ⟨.inl (), by simp only [dQ, js, aF, cond_false], .inl ⟨rfl, g⟩⟩) (by
     rintro k x hk ⟨rfl, g⟩
     simp only [dQ, js, az hk, aq, cond_true, aA, List.getElem?_eq_getElem hk, Option.bind_some, mS, aK (show k < 4611686018427387904 by omega)]; have more : (1 ≤ xs[k].1 ∧ xs[k].1 ≤ 5) → (∀ h0 : 0 < k, xs[k - 1].1 < xs[k].1) → H6 xs (k + 1) := fun q1 q2 j hj Gq => by
       by_cases e : j < k
       · exact g j hj e
       · have : j = k := by omega
         subst this; exact ⟨q1, q2⟩
     cases hb : (decide (1 ≤ xs[k].1) && decide (xs[k].1 ≤ 5))
     · exact .inl ⟨.inr (false, ()), rfl, .inr ⟨rfl, fun hn => by
         have := (hn k hk hk).1; rw [ah this.1, ah this.2] at hb
         cases hb⟩⟩
     · have q1 := wN hb
       by_cases h0 : 0 < k
       · have hp : k - 1 < xs.length := by omega
         rw [oG h0 (by omega)]; simp only [ah (show (0 : Int) < ((k : Nat) : Int) by omega), Bool.not_true, cond_false, cond_true, aq, aA, List.getElem?_eq_getElem hp, Option.bind_some]
         by_cases hs : xs[k].1 ≤ xs[k - 1].1
         · rw [ah hs]; refine .inl ⟨.inr (false, ()), rfl, .inr ⟨rfl, fun hn => ?_⟩⟩; have := (hn k hk hk).2 h0; omega
         · rw [ai hs]; exact .inr ⟨_, rfl, rfl, more q1 (fun _ => by omega)⟩
       · have : k = 0 := by omega
         subst this; simp only [ai (show ¬ (0 : Int) < ((0 : Nat) : Int) by omega), Bool.not_true, cond_false]; exact .inr ⟨_, rfl, rfl, more q1 (fun h => absurd h (by omega))⟩) ⟨rfl, fun j _ h => by omega⟩
 have he : aE dQ (c, xs, (0 : Int), ()) = some e := he; unfold ca at h1; simp only [mS, Option.bind_some, he] at h1; unfold pG
 cases a1 : (decide (1 ≤ c) && decide (c ≤ 9))
 · rw [a1] at h1; injection h1 with h1; injection h1 with h1 _; subst h1; refine ⟨fun h => (by cases h), fun h => ?_⟩; rw [ah h.1.1, ah h.1.2] at a1
   cases a1
 cases a2 : (decide (1 ≤ ((List.length xs : Nat) : Int)) && decide (((List.length xs : Nat) : Int) ≤ 5))
 · rw [a1, a2] at h1; injection h1 with h1; injection h1 with h1 _; subst h1; refine ⟨fun h => (by cases h), fun h => ?_⟩; rw [ah (show (1 : Int) ≤ ((List.length xs : Nat) : Int) by omega), ah (show ((List.length xs : Nat) : Int) ≤ 5 by omega)] at a2
   cases a2
 rw [a1, a2] at h1; have a1 := wN a1; have a2 := wN a2; rcases hq with ⟨rfl, g⟩ | ⟨rfl, g⟩
 · injection h1 with h1; injection h1 with h1 _; exact ⟨fun _ => ⟨a1, by omega, g⟩, fun _ => h1.symm⟩
 · injection h1 with h1; injection h1 with h1 _; subst h1; exact ⟨fun h => (by cases h), fun h => absurd h.2.2 g⟩
noncomputable def BA (c : Int) (xs : dn) : Bool := match ca c xs with | some x => x.1 | none => false
theorem qf (c : Int) (xs : dn) (h : xs.length ≤ 1048576) : ca c xs = some (BA c xs, ()) ∧ kP c xs = some (BA c xs, ()) ∧ (BA c xs = true ↔ pG c xs) := by
 obtain ⟨b, h1, h2, h3⟩ := NF c xs h; have : BA c xs = b := by unfold BA; rw [h1]
 rw [this]; exact ⟨h1, h2, h3⟩
noncomputable def qz (xs : aI) : Bool := match fw xs with | some x => x.1 | none => false
theorem uu (xs : aI) (h : xs.length ≤ 1048576) : fw xs = some (qz xs, ()) ∧ il xs = some (qz xs, ()) ∧ (qz xs = true ↔ gH xs xs.length) := by
 obtain ⟨b, h1, h2, h3⟩ := KB xs h; have : qz xs = b := by unfold qz; rw [h1]
 rw [this]; exact ⟨h1, h2, h3⟩
noncomputable def xQ (r : db) : Bool := match gk r.1 r.2.1 r.2.2.1 r.2.2.2.1 with | some x => x.1 | none => false
theorem zS (r : db) : gk r.1 r.2.1 r.2.2.1 r.2.2.2.1 = some (xQ r, ()) ∧ hY r.1 r.2.1 r.2.2.1 r.2.2.2.1 = some (xQ r, ()) ∧ (xQ r = true ↔ kc r) := by
 obtain ⟨b, h1, h2, h3⟩ := F4 r.1 r.2.1 r.2.2.1 r.2.2.2.1; have : xQ r = b := by unfold xQ; rw [h1]
 rw [this]; exact ⟨h1, h2, h3⟩
theorem zT {p q : Prop} [Decidable p] [Decidable q] : (decide p && decide q) = true ↔ p ∧ q := by
 rw [Bool.and_eq_true, decide_eq_true_eq, decide_eq_true_eq]
theorem KC (c0 c1 c2 c3 c4 : Int) (xs : dn) : ∃ b, dL c0 c1 c2 c3 c4 xs = some (b, ()) ∧ dV c0 c1 c2 c3 c4 xs = some (b, ()) ∧ (b = true ↔ c0 = 0 ∧ c1 = 0 ∧ c2 = 0 ∧ c3 = 0 ∧ c4 = 0 ∧ xs = []) := by
 obtain ⟨b, h1, h2⟩ := Bz c0 c1 c2 c3 c4 xs; refine ⟨b, h1, h2, ?_⟩; unfold dV at h2; have hl : ((List.length xs : Nat) : Int) = 0 ↔ xs = [] := by rw [← List.length_eq_zero_iff]; omega
 by_cases e0 : c0 = 0
 case neg => simp [ai e0] at h2; subst h2; simp [e0]
 by_cases e1 : c1 = 0
 case neg => simp [ah e0, ai e1] at h2; subst h2; simp [e1]
 by_cases e2 : c2 = 0
 case neg => simp [ah e0, ah e1, ai e2] at h2; subst h2; simp [e2]
 by_cases e3 : c3 = 0
 case neg => simp [ah e0, ah e1, ah e2, ai e3] at h2; subst h2; simp [e3]
 by_cases e4 : c4 = 0
 case neg => simp [ah e0, ah e1, ah e2, ah e3, ai e4] at h2; subst h2; simp [e4]
 by_cases e5 : ((List.length xs : Nat) : Int) = 0
 · rw [ah e0, ah e1, ah e2, ah e3, ah e4, ah e5] at h2; injection h2 with h2; injection h2 with h2 _; exact ⟨fun _ => ⟨e0, e1, e2, e3, e4, hl.1 e5⟩, fun _ => h2.symm⟩
 · rw [ah e0, ah e1, ah e2, ah e3, ah e4, ai e5] at h2; injection h2 with h2; injection h2 with h2 _; subst h2; exact ⟨fun h => (by cases h), fun h => absurd (hl.2 h.2.2.2.2.2) e5⟩
def Blank (t : jU) : Prop := t.1 = 0 ∧ t.2.1 = 0 ∧ t.2.2.1 = 0 ∧ t.2.2.2.1 = 0 ∧ t.2.2.2.2.1 = 0 ∧ t.2.2.2.2.2.1 = []
noncomputable def pH (t : jU) : Bool := match dL t.1 t.2.1 t.2.2.1 t.2.2.2.1 t.2.2.2.2.1 t.2.2.2.2.2.1 with | some x => x.1 | none => false
theorem uw (t : jU) : dL t.1 t.2.1 t.2.2.1 t.2.2.2.1 t.2.2.2.2.1 t.2.2.2.2.2.1 = some (pH t, ()) ∧ dV t.1 t.2.1 t.2.2.1 t.2.2.2.1 t.2.2.2.2.1 t.2.2.2.2.2.1 = some (pH t, ()) ∧ (pH t = true ↔ Blank t) := by
 obtain ⟨b, h1, h2, h3⟩ := KC t.1 t.2.1 t.2.2.1 t.2.2.2.1 t.2.2.2.2.1 t.2.2.2.2.2.1; have : pH t = b := by unfold pH; rw [h1]
 rw [this]; exact ⟨h1, h2, h3⟩
def zK (t : jU) : Prop := T8 t.1 t.2.1 t.2.2.1 t.2.2.2.1 t.2.2.2.2.1 t.2.2.2.2.2.1
noncomputable def Cl (t : jU) : Bool := match ck t.1 t.2.1 t.2.2.1 t.2.2.2.1 t.2.2.2.2.1 t.2.2.2.2.2.1 with | some x => x.1 | none => false
theorem uz (t : jU) (h : t.2.2.2.2.2.1.length ≤ 1048576) : ck t.1 t.2.1 t.2.2.1 t.2.2.2.1 t.2.2.2.2.1 t.2.2.2.2.2.1 = some (Cl t, ()) ∧ dW t.1 t.2.1 t.2.2.1 t.2.2.2.1 t.2.2.2.2.1 t.2.2.2.2.2.1 = some (Cl t, ()) ∧ (Cl t = true ↔ zK t) := by
 obtain ⟨b, h1, h2, h3⟩ := C7 t.1 t.2.1 t.2.2.1 t.2.2.2.1 t.2.2.2.2.1 t.2.2.2.2.2.1 h; have : Cl t = b := by unfold Cl; rw [h1]
 rw [this]; exact ⟨h1, h2, h3⟩
noncomputable def cS (xs : aI) : Nat := match eA xs with | some x => x.1.toNat | none => 0
theorem wO (xs : aI) (h : xs.length ≤ 1048576) : eA xs = some (((cS xs : Nat) : Int), ()) ∧ gG xs = some (((cS xs : Nat) : Int), ()) ∧ I2 xs (cS xs) := by
 obtain ⟨n, h1, h2, h3⟩ := Bx xs h; have : cS xs = n := by unfold cS; rw [h1]; rfl
 rw [this]; exact ⟨h1, h2, h3⟩
structure sJ (m : ee) : Prop where
 ring : pG m.2.1 m.2.2.1
 mem : (m.1, ()) ∈ m.2.2.1
 items : gH m.2.2.2.1 m.2.2.2.1.length
 texts : m.2.2.2.2.2.1.length ≤ 20 ∧ m.2.2.2.2.1.length = m.2.2.2.2.2.1.length
 Pj : sY m.2.2.2.2.1 m.2.2.2.2.1.length
 short : gO m.2.2.2.2.2.1 m.2.2.2.2.2.1.length
 round : 0 ≤ m.2.2.2.2.2.2.1 ∧ m.2.2.2.2.2.2.1 ≤ 1000000000
 seen : 0 ≤ m.2.2.2.2.2.2.2.1 ∧ m.2.2.2.2.2.2.2.1 ≤ 60
 line : 0 ≤ m.2.2.2.2.2.2.2.2.1 ∧ m.2.2.2.2.2.2.2.2.1 ≤ ((cS m.2.2.2.1 : Nat) : Int)
 heard : 0 ≤ m.2.2.2.2.2.2.2.2.2.1 ∧ m.2.2.2.2.2.2.2.2.2.1 ≤ ((cS m.2.2.2.1 : Nat) : Int)
 last : Blank (m.2.2.2.2.2.2.2.2.2.2.1, m.2.2.2.2.2.2.2.2.2.2.2.1, m.2.2.2.2.2.2.2.2.2.2.2.2.1, m.2.2.2.2.2.2.2.2.2.2.2.2.2.1, m.2.2.2.2.2.2.2.2.2.2.2.2.2.2.1, m.2.2.2.2.2.2.2.2.2.2.2.2.2.2.2.1, ()) ∨ zK (m.2.2.2.2.2.2.2.2.2.2.1, m.2.2.2.2.2.2.2.2.2.2.2.1, m.2.2.2.2.2.2.2.2.2.2.2.2.1, m.2.2.2.2.2.2.2.2.2.2.2.2.2.1, m.2.2.2.2.2.2.2.2.2.2.2.2.2.2.1, m.2.2.2.2.2.2.2.2.2.2.2.2.2.2.2.1, ())
def xR (m : ee) : Nat := (List.length m.2.2.1 + wl Es m.2.2.1) + (List.length m.2.2.2.1 + wl nO m.2.2.2.1) + (List.length m.2.2.2.2.1 + wl Es m.2.2.2.2.1) + (List.length m.2.2.2.2.2.1 + wl UJ m.2.2.2.2.2.1) + (List.length m.2.2.2.2.2.2.2.2.2.2.2.2.2.2.2.1 + wl Es m.2.2.2.2.2.2.2.2.2.2.2.2.2.2.2.1)
noncomputable def vi (m : ee) : Bool := match eN m.1 m.2.1 m.2.2.1 m.2.2.2.1 m.2.2.2.2.1 m.2.2.2.2.2.1 m.2.2.2.2.2.2.1 m.2.2.2.2.2.2.2.1 m.2.2.2.2.2.2.2.2.1 m.2.2.2.2.2.2.2.2.2.1 m.2.2.2.2.2.2.2.2.2.2.1 m.2.2.2.2.2.2.2.2.2.2.2.1 m.2.2.2.2.2.2.2.2.2.2.2.2.1 m.2.2.2.2.2.2.2.2.2.2.2.2.2.1 m.2.2.2.2.2.2.2.2.2.2.2.2.2.2.1 m.2.2.2.2.2.2.2.2.2.2.2.2.2.2.2.1 with | some x => x.1 | none => false
theorem pI (m : ee) (h0 : xR m ≤ 1048576) : eN m.1 m.2.1 m.2.2.1 m.2.2.2.1 m.2.2.2.2.1 m.2.2.2.2.2.1 m.2.2.2.2.2.2.1 m.2.2.2.2.2.2.2.1 m.2.2.2.2.2.2.2.2.1 m.2.2.2.2.2.2.2.2.2.1 m.2.2.2.2.2.2.2.2.2.2.1 m.2.2.2.2.2.2.2.2.2.2.2.1 m.2.2.2.2.2.2.2.2.2.2.2.2.1 m.2.2.2.2.2.2.2.2.2.2.2.2.2.1 m.2.2.2.2.2.2.2.2.2.2.2.2.2.2.1 m.2.2.2.2.2.2.2.2.2.2.2.2.2.2.2.1 = some (vi m, ()) ∧ eP m.1 m.2.1 m.2.2.1 m.2.2.2.1 m.2.2.2.2.1 m.2.2.2.2.2.1 m.2.2.2.2.2.2.1 m.2.2.2.2.2.2.2.1 m.2.2.2.2.2.2.2.2.1 m.2.2.2.2.2.2.2.2.2.1 m.2.2.2.2.2.2.2.2.2.2.1 m.2.2.2.2.2.2.2.2.2.2.2.1 m.2.2.2.2.2.2.2.2.2.2.2.2.1 m.2.2.2.2.2.2.2.2.2.2.2.2.2.1 m.2.2.2.2.2.2.2.2.2.2.2.2.2.2.1 m.2.2.2.2.2.2.2.2.2.2.2.2.2.2.2.1 = some (vi m, ()) ∧ (vi m = true ↔ sJ m) := by
 obtain ⟨b, k1, k2⟩ := F3 m.1 m.2.1 m.2.2.1 m.2.2.2.1 m.2.2.2.2.1 m.2.2.2.2.2.1 m.2.2.2.2.2.2.1 m.2.2.2.2.2.2.2.1 m.2.2.2.2.2.2.2.2.1 m.2.2.2.2.2.2.2.2.2.1 m.2.2.2.2.2.2.2.2.2.2.1 m.2.2.2.2.2.2.2.2.2.2.2.1 m.2.2.2.2.2.2.2.2.2.2.2.2.1 m.2.2.2.2.2.2.2.2.2.2.2.2.2.1 m.2.2.2.2.2.2.2.2.2.2.2.2.2.2.1 m.2.2.2.2.2.2.2.2.2.2.2.2.2.2.2.1 h0; have hb : vi m = b := by unfold vi; rw [k1]
 rw [hb]; refine ⟨k1, k2, ?_⟩; unfold xR at h0; obtain ⟨r1, _, r3⟩ := qf m.2.1 m.2.2.1 (by omega); have c1 := D7 m.2.2.1 m.1 (by omega); obtain ⟨i1, _, i3⟩ := uu m.2.2.2.1 (by omega); obtain ⟨b4, t1, t2⟩ := By m.2.2.2.2.1 m.2.2.2.2.2.1 (by omega) (by omega); obtain ⟨a1, a2, a3⟩ := wO m.2.2.2.1 (by omega); have z1 : dL m.2.2.2.2.2.2.2.2.2.2.1 m.2.2.2.2.2.2.2.2.2.2.2.1 m.2.2.2.2.2.2.2.2.2.2.2.2.1 m.2.2.2.2.2.2.2.2.2.2.2.2.2.1 m.2.2.2.2.2.2.2.2.2.2.2.2.2.2.1 m.2.2.2.2.2.2.2.2.2.2.2.2.2.2.2.1 = some (pH (m.2.2.2.2.2.2.2.2.2.2.1, m.2.2.2.2.2.2.2.2.2.2.2.1, m.2.2.2.2.2.2.2.2.2.2.2.2.1, m.2.2.2.2.2.2.2.2.2.2.2.2.2.1, m.2.2.2.2.2.2.2.2.2.2.2.2.2.2.1, m.2.2.2.2.2.2.2.2.2.2.2.2.2.2.2.1, ()), ()) := (uw (m.2.2.2.2.2.2.2.2.2.2.1, m.2.2.2.2.2.2.2.2.2.2.2.1, m.2.2.2.2.2.2.2.2.2.2.2.2.1, m.2.2.2.2.2.2.2.2.2.2.2.2.2.1, m.2.2.2.2.2.2.2.2.2.2.2.2.2.2.1, m.2.2.2.2.2.2.2.2.2.2.2.2.2.2.2.1, ())).1; have z3 := (uw (m.2.2.2.2.2.2.2.2.2.2.1, m.2.2.2.2.2.2.2.2.2.2.2.1, m.2.2.2.2.2.2.2.2.2.2.2.2.1, m.2.2.2.2.2.2.2.2.2.2.2.2.2.1, m.2.2.2.2.2.2.2.2.2.2.2.2.2.2.1, m.2.2.2.2.2.2.2.2.2.2.2.2.2.2.2.1, ())).2.2; have w1 : ck m.2.2.2.2.2.2.2.2.2.2.1 m.2.2.2.2.2.2.2.2.2.2.2.1 m.2.2.2.2.2.2.2.2.2.2.2.2.1 m.2.2.2.2.2.2.2.2.2.2.2.2.2.1 m.2.2.2.2.2.2.2.2.2.2.2.2.2.2.1 m.2.2.2.2.2.2.2.2.2.2.2.2.2.2.2.1 = some (Cl (m.2.2.2.2.2.2.2.2.2.2.1, m.2.2.2.2.2.2.2.2.2.2.2.1, m.2.2.2.2.2.2.2.2.2.2.2.2.1, m.2.2.2.2.2.2.2.2.2.2.2.2.2.1, m.2.2.2.2.2.2.2.2.2.2.2.2.2.2.1, m.2.2.2.2.2.2.2.2.2.2.2.2.2.2.2.1, ()), ()) := (uz (m.2.2.2.2.2.2.2.2.2.2.1, m.2.2.2.2.2.2.2.2.2.2.2.1, m.2.2.2.2.2.2.2.2.2.2.2.2.1, m.2.2.2.2.2.2.2.2.2.2.2.2.2.1, m.2.2.2.2.2.2.2.2.2.2.2.2.2.2.1, m.2.2.2.2.2.2.2.2.2.2.2.2.2.2.2.1, ()) (by show m.2.2.2.2.2.2.2.2.2.2.2.2.2.2.2.1.length ≤ _; omega)).1; have w3 := (uz (m.2.2.2.2.2.2.2.2.2.2.1, m.2.2.2.2.2.2.2.2.2.2.2.1, m.2.2.2.2.2.2.2.2.2.2.2.2.1, m.2.2.2.2.2.2.2.2.2.2.2.2.2.1, m.2.2.2.2.2.2.2.2.2.2.2.2.2.2.1, m.2.2.2.2.2.2.2.2.2.2.2.2.2.2.2.1, ()) (by show m.2.2.2.2.2.2.2.2.2.2.2.2.2.2.2.1.length ≤ _; omega)).2.2; unfold eN at k1; simp only [r1, c1, i1, t1, a1, z1, w1, mS, Option.bind_some] at k1
 cases e1 : BA m.2.1 m.2.2.1
 · rw [e1] at k1; injection k1 with k1; injection k1 with k1 _; subst k1; exact ⟨fun h => (by cases h), fun h => by rw [r3.2 h.ring] at e1; cases e1⟩
 by_cases e2 : (m.1, ()) ∈ m.2.2.1
 case neg =>
   rw [e1, ai e2] at k1; injection k1 with k1; injection k1 with k1 _; subst k1; exact ⟨fun h => (by cases h), fun h => absurd h.mem e2⟩
 cases e3 : qz m.2.2.2.1
 · rw [e1, ah e2, e3] at k1; injection k1 with k1; injection k1 with k1 _; subst k1; exact ⟨fun h => (by cases h), fun h => by rw [i3.2 h.items] at e3; cases e3⟩
 cases b4
 · rw [e1, ah e2, e3] at k1; injection k1 with k1; injection k1 with k1 _; subst k1; exact ⟨fun h => (by cases h), fun h => by have := t2.2 ⟨h.texts.1, h.texts.2, h.Pj, h.short⟩; cases this⟩
 rw [e1, ah e2, e3] at k1; simp only [Bool.not_true, cond_false] at k1
 cases e5 : (decide ((0 : Int) ≤ m.2.2.2.2.2.2.1) && decide (m.2.2.2.2.2.2.1 ≤ 1000000000))
 · rw [e5] at k1; injection k1 with k1; injection k1 with k1 _; subst k1; exact ⟨fun h => (by cases h), fun h => by rw [zT.2 h.round] at e5; cases e5⟩
 cases e6 : (decide ((0 : Int) ≤ m.2.2.2.2.2.2.2.1) && decide (m.2.2.2.2.2.2.2.1 ≤ 60))
 · rw [e5, e6] at k1; injection k1 with k1; injection k1 with k1 _; subst k1; exact ⟨fun h => (by cases h), fun h => by rw [zT.2 h.seen] at e6; cases e6⟩
 cases e8 : (decide ((0 : Int) ≤ m.2.2.2.2.2.2.2.2.1) && decide (m.2.2.2.2.2.2.2.2.1 ≤ ((cS m.2.2.2.1 : Nat) : Int)))
 · rw [e5, e6, e8] at k1; injection k1 with k1; injection k1 with k1 _; subst k1; exact ⟨fun h => (by cases h), fun h => by rw [zT.2 h.line] at e8; cases e8⟩
 cases e9 : (decide ((0 : Int) ≤ m.2.2.2.2.2.2.2.2.2.1) && decide (m.2.2.2.2.2.2.2.2.2.1 ≤ ((cS m.2.2.2.1 : Nat) : Int)))
 · rw [e5, e6, e8, e9] at k1; injection k1 with k1; injection k1 with k1 _; subst k1; exact ⟨fun h => (by cases h), fun h => by rw [zT.2 h.heard] at e9; cases e9⟩
 rw [e5, e6, e8, e9] at k1; obtain ⟨t3, t4, t5, t6⟩ := t2.1 rfl; have mk : (Blank (m.2.2.2.2.2.2.2.2.2.2.1, m.2.2.2.2.2.2.2.2.2.2.2.1, m.2.2.2.2.2.2.2.2.2.2.2.2.1, m.2.2.2.2.2.2.2.2.2.2.2.2.2.1, m.2.2.2.2.2.2.2.2.2.2.2.2.2.2.1, m.2.2.2.2.2.2.2.2.2.2.2.2.2.2.2.1, ()) ∨ zK (m.2.2.2.2.2.2.2.2.2.2.1, m.2.2.2.2.2.2.2.2.2.2.2.1, m.2.2.2.2.2.2.2.2.2.2.2.2.1, m.2.2.2.2.2.2.2.2.2.2.2.2.2.1, m.2.2.2.2.2.2.2.2.2.2.2.2.2.2.1, m.2.2.2.2.2.2.2.2.2.2.2.2.2.2.2.1, ())) → sJ m := fun hl => ⟨r3.1 e1, e2, i3.1 e3, ⟨t3, t4⟩, t5, t6, wN e5, wN e6, wN e8, wN e9, hl⟩
 cases XJ : pH (m.2.2.2.2.2.2.2.2.2.2.1, m.2.2.2.2.2.2.2.2.2.2.2.1, m.2.2.2.2.2.2.2.2.2.2.2.2.1, m.2.2.2.2.2.2.2.2.2.2.2.2.2.1, m.2.2.2.2.2.2.2.2.2.2.2.2.2.2.1, m.2.2.2.2.2.2.2.2.2.2.2.2.2.2.2.1, ())
 · rw [XJ] at k1
   cases XK : Cl (m.2.2.2.2.2.2.2.2.2.2.1, m.2.2.2.2.2.2.2.2.2.2.2.1, m.2.2.2.2.2.2.2.2.2.2.2.2.1, m.2.2.2.2.2.2.2.2.2.2.2.2.2.1, m.2.2.2.2.2.2.2.2.2.2.2.2.2.2.1, m.2.2.2.2.2.2.2.2.2.2.2.2.2.2.2.1, ())
   · rw [XK] at k1; injection k1 with k1; injection k1 with k1 _; subst k1; refine ⟨fun h => (by cases h), fun h => ?_⟩; rcases h.last with q | q
     · rw [z3.2 q] at XJ; cases XJ
     · rw [w3.2 q] at XK; cases XK
   · rw [XK] at k1; injection k1 with k1; injection k1 with k1 _; subst k1; exact ⟨fun _ => mk (.inr (w3.1 XK)), fun _ => rfl⟩
 · rw [XJ] at k1; injection k1 with k1; injection k1 with k1 _; subst k1; exact ⟨fun _ => mk (.inl (z3.1 XJ)), fun _ => rfl⟩
theorem sJ.small {m : ee} (h : sJ m) : xR m ≤ 5000 := by
 have h1 := cf _ h.items; have h2 := zr _ h.short; have h3 := h.texts; have h4 := h.ring.2.1; have h5 : m.2.2.2.2.2.2.2.2.2.2.2.2.2.2.2.1.length ≤ 20 := by
   rcases h.last with q | q
   · rw [show m.2.2.2.2.2.2.2.2.2.2.2.2.2.2.2.1 = [] from q.2.2.2.2.2]; exact Nat.zero_le _
   · exact q.2.2.2.2.2.1
 unfold xR; rw [uR Es (fun _ => rfl), uR Es (fun _ => rfl), uR Es (fun _ => rfl)]; omega
def iX : aI → db → aI
 | [], m => [m]
 | r :: xs, m => if r.1 < m.1 then r :: iX xs m else if r.1 = m.1 then r :: xs else m :: r :: xs
def H7 (xs : aI) : Prop := xs.Pairwise fun a b => a.1 < b.1
def jV (xs : aI) (m : db) : Nat := (xs.takeWhile fun r => decide (r.1 < m.1)).length
theorem Pk (xs : aI) (m : db) : jV xs m ≤ xs.length := (List.takeWhile_sublist _).length_le
theorem yz (r : db) (xs : aI) (m : db) : jV (r :: xs) m = if r.1 < m.1 then jV xs m + 1 else 0 := by
 unfold jV; rw [List.takeWhile_cons]
 by_cases h : r.1 < m.1
 · simp [h]
 · simp [h]
theorem F5 (m : db) : (xs : aI) → iX xs m = if h : jV xs m < xs.length then (if xs[jV xs m].1 = m.1 then xs else xs.take (jV xs m) ++ ([m] ++ xs.drop (jV xs m))) else xs.take (jV xs m) ++ ([m] ++ xs.drop (jV xs m))
 | [] => rfl
 | r :: xs => by
   have ih := F5 m xs; unfold iX
   by_cases h : r.1 < m.1
   · rw [if_pos h, ih]; have hp : jV (r :: xs) m = jV xs m + 1 := by rw [yz, if_pos h]
     by_cases h2 : jV xs m < xs.length
     · have h3 : jV (r :: xs) m < (r :: xs).length := by rw [hp, List.length_cons]; omega
       rw [dif_pos h2, dif_pos h3]; have e : (r :: xs)[jV (r :: xs) m] = xs[jV xs m] := by simp [hp]
       rw [e]
       by_cases h4 : xs[jV xs m].1 = m.1
       · rw [if_pos h4, if_pos h4]
       · rw [if_neg h4, if_neg h4, hp]; rfl
     · have h3 : ¬ jV (r :: xs) m < (r :: xs).length := by rw [hp, List.length_cons]; omega
       rw [dif_neg h2, dif_neg h3, hp]; rfl
   · rw [if_neg h]; have hp : jV (r :: xs) m = 0 := by rw [yz, if_neg h]
     have h3 : jV (r :: xs) m < (r :: xs).length := by rw [hp, List.length_cons]; omega
     rw [dif_pos h3]; have e : (r :: xs)[jV (r :: xs) m] = r := by simp [hp]
     rw [e, hp]; rfl
theorem H8 {xs : aI} (h : gH xs xs.length) : H7 xs := by
 have key : ∀ (d i : Nat) (hi : i + d + 1 < xs.length), xs[i].1 < xs[i + d + 1].1 := by
   intro d
   induction d with
   | zero => intro i hi; exact (h (i + 1) hi hi).2 (by omega)
   | succ d ih =>
     intro i hi; have h1 := ih i (by omega); have h2 := (h (i + (d + 1) + 1) hi hi).2 (by omega); have e : i + (d + 1) + 1 - 1 = i + d + 1 := by omega
     simp only [e] at h2; omega
 unfold H7; rw [List.pairwise_iff_getElem]; intro i j hi hj N8; have := key (j - i - 1) i (by omega); simpa [show i + (j - i - 1) + 1 = j by omega] using this
theorem NG {xs : aI} (h : H7 xs) (hi : ∀ r ∈ xs, kc r) : gH xs xs.length := by
 intro k hk _; refine ⟨hi _ (List.getElem_mem hk), fun h0 => ?_⟩; unfold H7 at h; rw [List.pairwise_iff_getElem] at h; exact h (k - 1) k (by omega) hk (by omega)
theorem yA {xs : aI} (h : gH xs xs.length) : ∀ r ∈ xs, kc r := by
 intro r hr; obtain ⟨k, hk, rfl⟩ := List.mem_iff_getElem.1 hr; exact (h k hk hk).1
theorem uA {r m : db} : {xs : aI} → r ∈ iX xs m → r = m ∨ r ∈ xs
 | [], h => by
   unfold iX at h; exact .inl (List.mem_singleton.1 h)
 | x :: xs, h => by
   unfold iX at h
   split at h
   · rcases List.mem_cons.1 h with rfl | h
     · exact .inr List.mem_cons_self
     · exact (uA h).imp id (List.mem_cons_of_mem _)
   · split at h
     · exact .inr h
     · rcases List.mem_cons.1 h with rfl | h
       · exact .inl rfl
       · exact .inr h
theorem F6 {m : db} : {xs : aI} → H7 xs → H7 (iX xs m)
 | [], _ => by unfold iX H7; simp
 | x :: xs, h => by
   unfold H7 at h; rw [List.pairwise_cons] at h; unfold iX
   split
   · rename_i bQ; unfold H7; rw [List.pairwise_cons]; refine ⟨fun y hy => ?_, F6 h.2⟩; rcases uA hy with rfl | hy
     · exact bQ
     · exact h.1 y hy
   · split
     · unfold H7; rw [List.pairwise_cons]; exact h
     · unfold H7; rw [List.pairwise_cons, List.pairwise_cons]; refine ⟨fun y hy => ?_, h⟩; rcases List.mem_cons.1 hy with rfl | hy
       · omega
       · have := h.1 y hy; omega
theorem BB {xs : aI} {m : db} (h : gH xs xs.length) (hm : kc m) : gH (iX xs m) (iX xs m).length :=
 NG (F6 (H8 h)) fun r hr => (uA hr).elim (fun e => e ▸ hm) (yA h r)
def kR (xs : aI) (m : db) : aI := xs.filter fun r => decide (r.1 < m.1)
def pJ (xs : aI) (m : db) : aI := xs.filter fun r => decide (m.1 < r.1)
def xS (xs : aI) (s : Int) : Bool := xs.any fun r => decide (r.1 = s)
theorem zu (m : db) : (xs : aI) → H7 xs → iX xs m = bif xS xs m.1 then xs else kR xs m ++ [m] ++ pJ xs m
 | [], _ => rfl
 | r :: xs, h => by
   unfold H7 at h; rw [List.pairwise_cons] at h; have ih := zu m xs h.2; unfold iX
   by_cases h1 : r.1 < m.1
   · rw [if_pos h1, ih]; have e1 : xS (r :: xs) m.1 = xS xs m.1 := by unfold xS; rw [List.any_cons, ai (show ¬ r.1 = m.1 by omega)]; rfl
     have e2 : kR (r :: xs) m = r :: kR xs m := by unfold kR; rw [List.filter_cons, if_pos (ah h1)]
     have e3 : pJ (r :: xs) m = pJ xs m := by unfold pJ; rw [List.filter_cons, if_neg (by rw [decide_eq_true_eq]; omega)]
     rw [e1, e2, e3]
     cases xS xs m.1 <;> rfl
   · rw [if_neg h1]
     by_cases h2 : r.1 = m.1
     · have e1 : xS (r :: xs) m.1 = true := by unfold xS; rw [List.any_cons, ah h2]; rfl
       rw [if_pos h2, e1]; rfl
     · rw [if_neg h2]; have oS : ∀ y ∈ r :: xs, m.1 < y.1 := by
         intro y hy; rcases List.mem_cons.1 hy with rfl | hy
         · omega
         · have := h.1 y hy; omega
       have e1 : xS (r :: xs) m.1 = false := by
         unfold xS; rw [List.any_eq_false]; intro y hy; have := oS y hy; rw [decide_eq_true_eq]; omega
       have e2 : kR (r :: xs) m = [] := by
         unfold kR; rw [List.filter_eq_nil_iff]; intro y hy; have := oS y hy; rw [decide_eq_true_eq]; omega
       have e3 : pJ (r :: xs) m = r :: xs := by
         unfold pJ; rw [List.filter_eq_self]; intro y hy; exact ah (oS y hy)
       rw [e1, e2, e3]; rfl
theorem xT (xs : aI) (m : db) (h : xs.length ≤ 1048576) (hi : qz xs = true) (hm : xQ m = true) : gl xs m.1 m.2.1 m.2.2.1 m.2.2.2.1 = some (iX xs m, ()) := by
 obtain ⟨k1, _, k3⟩ := uu xs h; obtain ⟨q1, _, _⟩ := zS m; have hs := H8 (k3.1 hi); have hlen : ∀ k, (kR (xs.take k) m).length ≤ k := fun k => Nat.le_trans (List.length_filter_le _ _) (by rw [List.length_take]; omega)
 have FD : ∀ k, (pJ (xs.take k) m).length ≤ k := fun k => Nat.le_trans (List.length_filter_le _ _) (by rw [List.length_take]; omega)
 have l1 := qP (round := fS) (n := xs.length) (fun k => (xs, m.1, m.2.1, m.2.2.1, m.2.2.2.1, xs, kR (xs.take k) m, ((k : Nat) : Int), ())) (fun k => some (bif xS (xs.drop k) m.1 then .inr (xs, ()) else .inl (xs, m.1, m.2.1, m.2.2.1, m.2.2.2.1, kR xs m, ())))
   ⟨.inl (xs, m.1, m.2.1, m.2.2.1, m.2.2.2.1, kR xs m, ()), by simp only [fS, nh, aF, cond_false, List.take_length], by rw [List.drop_length]; rfl⟩ (fun k hk => by
     have e : xS (xs.drop k) m.1 = (decide (xs[k].1 = m.1) || xS (xs.drop (k + 1)) m.1) := by unfold xS; rw [List.drop_eq_getElem_cons hk, List.any_cons]
     have e2 : kR (xs.take (k + 1)) m = kR (xs.take k) m ++ (if decide (xs[k].1 < m.1) = true then [xs[k]] else []) := by
       unfold kR; rw [List.take_succ_eq_append_getElem hk, List.filter_append, List.filter_cons]
       split <;> rfl
     have hb : Nat.ble (((kR (xs.take k) m).length + 1) * 40) lim = true := aH (by have := hlen k; unfold lim; omega); simp only [fS, nh, az hk, aq, cond_true, aA, List.getElem?_eq_getElem hk, Option.bind_some, aK (show k < 4611686018427387904 by omega), hb, e, e2]
     by_cases h1 : xs[k].1 = m.1
     · rw [ah h1]; exact .inl ⟨_, rfl, rfl⟩
     · rw [ai h1]; refine .inr ⟨?_, rfl⟩
       by_cases h2 : xs[k].1 < m.1
       · rw [ah h2]; rfl
       · rw [ai h2, if_neg (by decide), List.append_nil]; rfl) 0 (Nat.zero_le _)
 have l1 : aE fS (xs, m.1, m.2.1, m.2.2.1, m.2.2.2.1, xs, [], (0 : Int), ()) = _ := l1; rw [List.drop_zero] at l1; have l2 := ek (round := fb) (e := .inl (kR xs m ++ [m] ++ pJ xs m, ())) xs.length (fun k => (xs, m.1, m.2.1, m.2.2.1, m.2.2.2.1, kR xs m ++ [m] ++ pJ (xs.take k) m, ((k : Nat) : Int), ())) (by
   simp only [fb, ni, aF, cond_false, List.take_length]) (fun k hk => by
     have e2 : pJ (xs.take (k + 1)) m = pJ (xs.take k) m ++ (if decide (m.1 < xs[k].1) = true then [xs[k]] else []) := by
       unfold pJ; rw [List.take_succ_eq_append_getElem hk, List.filter_append, List.filter_cons]
       split <;> rfl
     have hb : Nat.ble (((kR xs m ++ [m] ++ pJ (xs.take k) m).length + 1) * 40) lim = true := aH (by
       have h1 := hlen xs.length; rw [List.take_length] at h1; have h2 := FD k; simp only [List.length_append, List.length_cons, List.length_nil]; unfold lim; omega)
     simp only [fb, ni, az hk, aq, cond_true, aA, List.getElem?_eq_getElem hk, Option.bind_some, aK (show k < 4611686018427387904 by omega), hb, e2]
     by_cases h2 : m.1 < xs[k].1
     · rw [ah h2, if_pos rfl, ← List.append_assoc]; rfl
     · rw [ai h2, if_neg (by decide), List.append_nil]; rfl)
 have l2 : aE fb (xs, m.1, m.2.1, m.2.2.1, m.2.2.2.1, kR xs m ++ [m] ++ pJ (xs.take 0) m, (0 : Int), ()) = _ := l2; rw [show pJ (xs.take 0) m = [] from rfl, List.append_nil] at l2; have N7 : Nat.ble ((0 + xs.length) * 40) lim = true := aH (by unfold lim; omega); have GV : Nat.ble (((kR xs m).length + 1) * 40) lim = true := aH (by
   have h1 := hlen xs.length; rw [List.take_length] at h1; unfold lim; omega)
 rw [zu m xs hs]; unfold gl; simp only [k1, q1, hi, hm, N7, cond_true, Bool.not_true, cond_false, Option.bind_some, List.nil_append, l1]
 cases xS xs m.1
 · have l3 : aE fb (xs, m.1, m.2.1, m.2.2.1, m.2.2.2.1, kR xs m ++ [(m.1, m.2.1, m.2.2.1, m.2.2.2.1, ())], (0 : Int), ()) = _ := l2; simp only [cond_false, cq, Option.bind_some, GV, cond_true, l3]
 · rfl
theorem xU (xs : aI) (m : db) (h : xs.length ≤ 1048576) : lB xs m.1 m.2.1 m.2.2.1 m.2.2.2.1 = some (iX xs m, ()) := by
 have l1 := qP (round := fY) (n := xs.length) (fun k => (xs, m.1, m.2.1, m.2.2.1, m.2.2.2.1, ((k : Nat) : Int), ())) (fun k => some (.inl (xs, m.1, m.2.1, m.2.2.1, m.2.2.2.1, ((k + jV (xs.drop k) m : Nat) : Int), ())))
   ⟨.inl (xs, m.1, m.2.1, m.2.2.1, m.2.2.2.1, ((xs.length : Nat) : Int), ()), by simp only [fY, nM, aF, cond_false], by rw [List.drop_length]; rfl⟩ (fun k hk => by
     have e : jV (xs.drop k) m = if xs[k].1 < m.1 then jV (xs.drop (k + 1)) m + 1 else 0 := by rw [List.drop_eq_getElem_cons hk, yz]
     simp only [fY, nM, az hk, aq, cond_true, aA, mE hk, List.getElem?_eq_getElem hk, Option.bind_some, aK (show k < 4611686018427387904 by omega), e]
     by_cases h1 : xs[k].1 < m.1
     · rw [ah h1, if_pos h1]; exact .inr ⟨rfl, by rw [show k + (jV (xs.drop (k + 1)) m + 1) = k + 1 + jV (xs.drop (k + 1)) m by omega]⟩
     · rw [ai h1, if_neg h1]; exact .inl ⟨_, rfl, rfl⟩) 0 (Nat.zero_le _)
 have l1 : aE fY (xs, m.1, m.2.1, m.2.2.1, m.2.2.2.1, (0 : Int), ()) = _ := l1; rw [List.drop_zero, Nat.zero_add] at l1; have hp := Pk xs m; have acP : FT xs ((jV xs m : Nat) : Int) [(m.1, m.2.1, m.2.2.1, m.2.2.2.1, ())] = some (xs.take (jV xs m) ++ ([m] ++ xs.drop (jV xs m)), ()) := by
   unfold FT; rw [aq, ah (show ((jV xs m : Nat) : Int) ≤ ((xs.length : Nat) : Int) by omega), aH (show (xs.length + 1) * 40 ≤ lim by unfold lim; omega)]; rfl
 rw [F5]; unfold lB; simp only [l1, cq, acP, Option.bind_some]
 by_cases h1 : jV xs m < xs.length
 · simp only [dif_pos h1, az h1, aq, aA, mE h1, cond_true, List.getElem?_eq_getElem h1, Option.bind_some]
   by_cases h2 : xs[jV xs m].1 = m.1
   · rw [ah h2, if_pos h2]; rfl
   · rw [ai h2, if_neg h2]; rfl
 · rw [dif_neg h1, ai (show ¬ ((jV xs m : Nat) : Int) < ((xs.length : Nat) : Int) by omega)]; rfl
noncomputable def NH (xs : aI) (m : db) : aI := bif qz xs && xQ m then iX xs m else xs
theorem D9 (xs : aI) (m : db) (h : xs.length ≤ 1048576) : gl xs m.1 m.2.1 m.2.2.1 m.2.2.2.1 = some (NH xs m, ()) ∧ sE xs m.1 m.2.1 m.2.2.1 m.2.2.2.1 = some (NH xs m, ()) := by
 obtain ⟨k1, k2, _⟩ := uu xs h; obtain ⟨q1, q2, _⟩ := zS m; have N7 : Nat.ble ((0 + xs.length) * 40) lim = true := aH (by unfold lim; omega); unfold NH
 constructor
 · cases hi : qz xs
   · unfold gl; simp only [k1, hi, N7, cond_true, Option.bind_some]; rfl
   · cases hm : xQ m
     · unfold gl; simp only [k1, q1, hi, hm, N7, cond_true, Option.bind_some]; rfl
     · exact xT xs m h hi hm
 · unfold sE; simp only [k2, q2, zt xs h, Option.bind_some, xU xs m h]
   cases qz xs <;> cases xQ m <;> rfl
def oH (m : ee) (xs : aI) : ee := (m.1, m.2.1, m.2.2.1, xs, m.2.2.2.2)
noncomputable def BC (m : ee) (x : db) : ee := bif vi m then oH m (NH m.2.2.2.1 x) else m
theorem H9 (m : ee) (x : db) (h : xR m ≤ 1048576) : pb m.1 m.2.1 m.2.2.1 m.2.2.2.1 m.2.2.2.2.1 m.2.2.2.2.2.1 m.2.2.2.2.2.2.1 m.2.2.2.2.2.2.2.1 m.2.2.2.2.2.2.2.2.1 m.2.2.2.2.2.2.2.2.2.1 m.2.2.2.2.2.2.2.2.2.2.1 m.2.2.2.2.2.2.2.2.2.2.2.1 m.2.2.2.2.2.2.2.2.2.2.2.2.1 m.2.2.2.2.2.2.2.2.2.2.2.2.2.1 m.2.2.2.2.2.2.2.2.2.2.2.2.2.2.1 m.2.2.2.2.2.2.2.2.2.2.2.2.2.2.2.1 x.1 x.2.1 x.2.2.1 x.2.2.2.1 = some (BC m x) ∧ Bv m.1 m.2.1 m.2.2.1 m.2.2.2.1 m.2.2.2.2.1 m.2.2.2.2.2.1 m.2.2.2.2.2.2.1 m.2.2.2.2.2.2.2.1 m.2.2.2.2.2.2.2.2.1 m.2.2.2.2.2.2.2.2.2.1 m.2.2.2.2.2.2.2.2.2.2.1 m.2.2.2.2.2.2.2.2.2.2.2.1 m.2.2.2.2.2.2.2.2.2.2.2.2.1 m.2.2.2.2.2.2.2.2.2.2.2.2.2.1 m.2.2.2.2.2.2.2.2.2.2.2.2.2.2.1 m.2.2.2.2.2.2.2.2.2.2.2.2.2.2.2.1 x.1 x.2.1 x.2.2.1 x.2.2.2.1 = some (BC m x) := by
 obtain ⟨k1, k2, _⟩ := pI m h; obtain ⟨p1, p2⟩ := kQ m.1 m.2.1 m.2.2.1 m.2.2.2.1 m.2.2.2.2.1 m.2.2.2.2.2.1 m.2.2.2.2.2.2.1 m.2.2.2.2.2.2.2.1 m.2.2.2.2.2.2.2.2.1 m.2.2.2.2.2.2.2.2.2.1 m.2.2.2.2.2.2.2.2.2.2.1 m.2.2.2.2.2.2.2.2.2.2.2.1 m.2.2.2.2.2.2.2.2.2.2.2.2.1 m.2.2.2.2.2.2.2.2.2.2.2.2.2.1 m.2.2.2.2.2.2.2.2.2.2.2.2.2.2.1 m.2.2.2.2.2.2.2.2.2.2.2.2.2.2.2.1 h; have hl : m.2.2.2.1.length ≤ 1048576 := by unfold xR at h; omega
 obtain ⟨q1, q2⟩ := D9 m.2.2.2.1 x hl; unfold BC
 constructor
 · unfold pb; simp only [p1, k1, q1, Option.bind_some]
   cases vi m <;> rfl
 · unfold Bv; simp only [p2, k2, q2, Option.bind_some]
   cases vi m <;> rfl
def zU (xs : aI) (s : Int) : db := ((lF (cE xs s)).1, (lF (cE xs s)).2.1, (lF (cE xs s)).2.2.1, (lF (cE xs s)).2.2.2.1, ())
def jz (xs : aI) (h : Int) (k : Nat) : aI := (List.range k).map fun j => zU xs (h + ((j + 1 : Nat) : Int))
theorem wP (xs : aI) (h : Int) (k : Nat) : (jz xs h k).length = k := by simp [jz]
theorem qg (xs : aI) (h : Int) (k : Nat) : jz xs h (k + 1) = jz xs h k ++ [zU xs (h + ((k + 1 : Nat) : Int))] := by
 unfold jz; rw [List.range_succ, List.map_append]; rfl
def xV (xs : aI) (line s : Int) : Prop := (zU xs s).2.2.1 = 2 ∧ line < (zU xs s).1
theorem NI (m : ee) (h0 : xR m ≤ 1048576) : ∃ (k : Nat) (v : Int), qS m.1 m.2.1 m.2.2.1 m.2.2.2.1 m.2.2.2.2.1 m.2.2.2.2.2.1 m.2.2.2.2.2.2.1 m.2.2.2.2.2.2.2.1 m.2.2.2.2.2.2.2.2.1 m.2.2.2.2.2.2.2.2.2.1 m.2.2.2.2.2.2.2.2.2.2.1 m.2.2.2.2.2.2.2.2.2.2.2.1 m.2.2.2.2.2.2.2.2.2.2.2.2.1 m.2.2.2.2.2.2.2.2.2.2.2.2.2.1 m.2.2.2.2.2.2.2.2.2.2.2.2.2.2.1 m.2.2.2.2.2.2.2.2.2.2.2.2.2.2.2.1 = some (m.1, m.2.1, m.2.2.1, m.2.2.2.1, m.2.2.2.2.1, m.2.2.2.2.2.1, m.2.2.2.2.2.2.1, m.2.2.2.2.2.2.2.1, m.2.2.2.2.2.2.2.2.1, v, m.2.2.2.2.2.2.2.2.2.2.1, m.2.2.2.2.2.2.2.2.2.2.2.1, m.2.2.2.2.2.2.2.2.2.2.2.2.1, m.2.2.2.2.2.2.2.2.2.2.2.2.2.1, m.2.2.2.2.2.2.2.2.2.2.2.2.2.2.1, m.2.2.2.2.2.2.2.2.2.2.2.2.2.2.2.1, jz m.2.2.2.1 m.2.2.2.2.2.2.2.2.2.1 k, ()) ∧ yy m.1 m.2.1 m.2.2.1 m.2.2.2.1 m.2.2.2.2.1 m.2.2.2.2.2.1 m.2.2.2.2.2.2.1 m.2.2.2.2.2.2.2.1 m.2.2.2.2.2.2.2.2.1 m.2.2.2.2.2.2.2.2.2.1 m.2.2.2.2.2.2.2.2.2.2.1 m.2.2.2.2.2.2.2.2.2.2.2.1 m.2.2.2.2.2.2.2.2.2.2.2.2.1 m.2.2.2.2.2.2.2.2.2.2.2.2.2.1 m.2.2.2.2.2.2.2.2.2.2.2.2.2.2.1 m.2.2.2.2.2.2.2.2.2.2.2.2.2.2.2.1 = some (m.1, m.2.1, m.2.2.1, m.2.2.2.1, m.2.2.2.2.1, m.2.2.2.2.2.1, m.2.2.2.2.2.2.1, m.2.2.2.2.2.2.2.1, m.2.2.2.2.2.2.2.2.1, v, m.2.2.2.2.2.2.2.2.2.2.1, m.2.2.2.2.2.2.2.2.2.2.2.1, m.2.2.2.2.2.2.2.2.2.2.2.2.1, m.2.2.2.2.2.2.2.2.2.2.2.2.2.1, m.2.2.2.2.2.2.2.2.2.2.2.2.2.2.1, m.2.2.2.2.2.2.2.2.2.2.2.2.2.2.2.1, jz m.2.2.2.1 m.2.2.2.2.2.2.2.2.2.1 k, ()) ∧ v = m.2.2.2.2.2.2.2.2.2.1 + ((k : Nat) : Int) ∧
   (vi m = false → k = 0) ∧ (vi m = true → v ≤ ((cS m.2.2.2.1 : Nat) : Int) ∧ (∀ j, j < k → ¬ xV m.2.2.2.1 m.2.2.2.2.2.2.2.2.1 (m.2.2.2.2.2.2.2.2.2.1 + ((j + 1 : Nat) : Int))) ∧ (v < ((cS m.2.2.2.1 : Nat) : Int) → xV m.2.2.2.1 m.2.2.2.2.2.2.2.2.1 (m.2.2.2.2.2.2.2.2.2.1 + ((k + 1 : Nat) : Int)))) := by
 obtain ⟨k1, k2, k3⟩ := pI m h0; obtain ⟨p1, p2⟩ := kQ m.1 m.2.1 m.2.2.1 m.2.2.2.1 m.2.2.2.2.1 m.2.2.2.2.2.1 m.2.2.2.2.2.2.1 m.2.2.2.2.2.2.2.1 m.2.2.2.2.2.2.2.2.1 m.2.2.2.2.2.2.2.2.2.1 m.2.2.2.2.2.2.2.2.2.2.1 m.2.2.2.2.2.2.2.2.2.2.2.1 m.2.2.2.2.2.2.2.2.2.2.2.2.1 m.2.2.2.2.2.2.2.2.2.2.2.2.2.1 m.2.2.2.2.2.2.2.2.2.2.2.2.2.2.1 m.2.2.2.2.2.2.2.2.2.2.2.2.2.2.2.1 h0; unfold qS yy; simp only [k1, k2, p1, p2, Option.bind_some]
 cases hb : vi m
 · exact ⟨0, m.2.2.2.2.2.2.2.2.2.1, rfl, rfl, by omega, (fun _ => rfl), (fun h => by cases h)⟩
 have hm := k3.1 hb; have hit := cf m.2.2.2.1 hm.items; have hl : m.2.2.2.1.length ≤ 1048576 := by omega
 obtain ⟨a1, a2, a3⟩ := wO m.2.2.2.1 hl; have hh := hm.heard; generalize hn : cS m.2.2.2.1 = n at a1 a2 a3 hh; have agz : n ≤ 60 := Nat.le_trans a3.1 hit.1; obtain ⟨e, f, g1, g2, k, v, g3, g4, g5, g6, g7, g8⟩ : ∃ e f, aE lr (m.1, m.2.1, m.2.2.1, m.2.2.2.1, m.2.2.2.2.1, m.2.2.2.2.2.1, m.2.2.2.2.2.2.1, m.2.2.2.2.2.2.2.1, m.2.2.2.2.2.2.2.2.1, m.2.2.2.2.2.2.2.2.2.1, m.2.2.2.2.2.2.2.2.2.2.1, m.2.2.2.2.2.2.2.2.2.2.2.1, m.2.2.2.2.2.2.2.2.2.2.2.2.1, m.2.2.2.2.2.2.2.2.2.2.2.2.2.1, m.2.2.2.2.2.2.2.2.2.2.2.2.2.2.1, m.2.2.2.2.2.2.2.2.2.2.2.2.2.2.2.1, (0 : Int), (0 : Int), [], [], [], [], (0 : Int), (0 : Int), (0 : Int), (0 : Int), (0 : Int), (0 : Int), (0 : Int), (0 : Int), (0 : Int), [], m.1, m.2.1, m.2.2.1, m.2.2.2.1, m.2.2.2.2.1, m.2.2.2.2.2.1, m.2.2.2.2.2.2.1, m.2.2.2.2.2.2.2.1, m.2.2.2.2.2.2.2.2.1, m.2.2.2.2.2.2.2.2.2.1, m.2.2.2.2.2.2.2.2.2.2.1, m.2.2.2.2.2.2.2.2.2.2.2.1, m.2.2.2.2.2.2.2.2.2.2.2.2.1, m.2.2.2.2.2.2.2.2.2.2.2.2.2.1, m.2.2.2.2.2.2.2.2.2.2.2.2.2.2.1, m.2.2.2.2.2.2.2.2.2.2.2.2.2.2.2.1, [], ((n : Nat) : Int), ()) = some e ∧ aE ot (m.1, m.2.1, m.2.2.1, m.2.2.2.1, m.2.2.2.2.1, m.2.2.2.2.2.1, m.2.2.2.2.2.2.1, m.2.2.2.2.2.2.2.1, m.2.2.2.2.2.2.2.2.1, m.2.2.2.2.2.2.2.2.2.1, m.2.2.2.2.2.2.2.2.2.2.1, m.2.2.2.2.2.2.2.2.2.2.2.1, m.2.2.2.2.2.2.2.2.2.2.2.2.1, m.2.2.2.2.2.2.2.2.2.2.2.2.2.1, m.2.2.2.2.2.2.2.2.2.2.2.2.2.2.1, m.2.2.2.2.2.2.2.2.2.2.2.2.2.2.2.1, (0 : Int), (0 : Int), [], [], [], [], (0 : Int), (0 : Int), (0 : Int), (0 : Int), (0 : Int), (0 : Int), (0 : Int), (0 : Int), (0 : Int), [], m.1, m.2.1, m.2.2.1, m.2.2.2.1, m.2.2.2.2.1, m.2.2.2.2.2.1, m.2.2.2.2.2.2.1, m.2.2.2.2.2.2.2.1, m.2.2.2.2.2.2.2.2.1, m.2.2.2.2.2.2.2.2.2.1, m.2.2.2.2.2.2.2.2.2.2.1, m.2.2.2.2.2.2.2.2.2.2.2.1, m.2.2.2.2.2.2.2.2.2.2.2.2.1, m.2.2.2.2.2.2.2.2.2.2.2.2.2.1, m.2.2.2.2.2.2.2.2.2.2.2.2.2.2.1, m.2.2.2.2.2.2.2.2.2.2.2.2.2.2.2.1, [], ()) = some f ∧
     ∃ (k : Nat) (v : Int), (e = .inl ((0 : Int), (0 : Int), [], [], [], [], (0 : Int), (0 : Int), (0 : Int), (0 : Int), (0 : Int), (0 : Int), (0 : Int), (0 : Int), (0 : Int), [], m.1, m.2.1, m.2.2.1, m.2.2.2.1, m.2.2.2.2.1, m.2.2.2.2.2.1, m.2.2.2.2.2.2.1, m.2.2.2.2.2.2.2.1, m.2.2.2.2.2.2.2.2.1, v, m.2.2.2.2.2.2.2.2.2.2.1, m.2.2.2.2.2.2.2.2.2.2.2.1, m.2.2.2.2.2.2.2.2.2.2.2.2.1, m.2.2.2.2.2.2.2.2.2.2.2.2.2.1, m.2.2.2.2.2.2.2.2.2.2.2.2.2.2.1, m.2.2.2.2.2.2.2.2.2.2.2.2.2.2.2.1, jz m.2.2.2.1 m.2.2.2.2.2.2.2.2.2.1 k, ()) ∨ e = .inr (m.1, m.2.1, m.2.2.1, m.2.2.2.1, m.2.2.2.2.1, m.2.2.2.2.2.1, m.2.2.2.2.2.2.1, m.2.2.2.2.2.2.2.1, m.2.2.2.2.2.2.2.2.1, v, m.2.2.2.2.2.2.2.2.2.2.1, m.2.2.2.2.2.2.2.2.2.2.2.1, m.2.2.2.2.2.2.2.2.2.2.2.2.1, m.2.2.2.2.2.2.2.2.2.2.2.2.2.1, m.2.2.2.2.2.2.2.2.2.2.2.2.2.2.1, m.2.2.2.2.2.2.2.2.2.2.2.2.2.2.2.1, jz m.2.2.2.1 m.2.2.2.2.2.2.2.2.2.1 k, ())) ∧ f = .inl ((0 : Int), (0 : Int), [], [], [], [], (0 : Int), (0 : Int), (0 : Int), (0 : Int), (0 : Int), (0 : Int), (0 : Int), (0 : Int), (0 : Int), [], m.1, m.2.1, m.2.2.1, m.2.2.2.1, m.2.2.2.2.1, m.2.2.2.2.2.1, m.2.2.2.2.2.2.1, m.2.2.2.2.2.2.2.1, m.2.2.2.2.2.2.2.2.1, v, m.2.2.2.2.2.2.2.2.2.2.1, m.2.2.2.2.2.2.2.2.2.2.2.1, m.2.2.2.2.2.2.2.2.2.2.2.2.1, m.2.2.2.2.2.2.2.2.2.2.2.2.2.1, m.2.2.2.2.2.2.2.2.2.2.2.2.2.2.1, m.2.2.2.2.2.2.2.2.2.2.2.2.2.2.2.1, jz m.2.2.2.1 m.2.2.2.2.2.2.2.2.2.1 k, ()) ∧ v = m.2.2.2.2.2.2.2.2.2.1 + ((k : Nat) : Int) ∧ v ≤ ((n : Nat) : Int) ∧
       (∀ j, j < k → ¬ xV m.2.2.2.1 m.2.2.2.2.2.2.2.2.1 (m.2.2.2.2.2.2.2.2.2.1 + ((j + 1 : Nat) : Int))) ∧ (v < ((n : Nat) : Int) → xV m.2.2.2.1 m.2.2.2.2.2.2.2.2.1 (m.2.2.2.2.2.2.2.2.2.1 + ((k + 1 : Nat) : Int))) := by
   refine mF 60 (fun k x y => ∃ v : Int, x = (m.1, m.2.1, m.2.2.1, m.2.2.2.1, m.2.2.2.2.1, m.2.2.2.2.2.1, m.2.2.2.2.2.2.1, m.2.2.2.2.2.2.2.1, m.2.2.2.2.2.2.2.2.1, m.2.2.2.2.2.2.2.2.2.1, m.2.2.2.2.2.2.2.2.2.2.1, m.2.2.2.2.2.2.2.2.2.2.2.1, m.2.2.2.2.2.2.2.2.2.2.2.2.1, m.2.2.2.2.2.2.2.2.2.2.2.2.2.1, m.2.2.2.2.2.2.2.2.2.2.2.2.2.2.1, m.2.2.2.2.2.2.2.2.2.2.2.2.2.2.2.1, (0 : Int), (0 : Int), [], [], [], [], (0 : Int), (0 : Int), (0 : Int), (0 : Int), (0 : Int), (0 : Int), (0 : Int), (0 : Int), (0 : Int), [], m.1, m.2.1, m.2.2.1, m.2.2.2.1, m.2.2.2.2.1, m.2.2.2.2.2.1, m.2.2.2.2.2.2.1, m.2.2.2.2.2.2.2.1, m.2.2.2.2.2.2.2.2.1, v, m.2.2.2.2.2.2.2.2.2.2.1, m.2.2.2.2.2.2.2.2.2.2.2.1, m.2.2.2.2.2.2.2.2.2.2.2.2.1, m.2.2.2.2.2.2.2.2.2.2.2.2.2.1, m.2.2.2.2.2.2.2.2.2.2.2.2.2.2.1, m.2.2.2.2.2.2.2.2.2.2.2.2.2.2.2.1, jz m.2.2.2.1 m.2.2.2.2.2.2.2.2.2.1 k, ((n : Nat) : Int), ()) ∧ y = (m.1, m.2.1, m.2.2.1, m.2.2.2.1, m.2.2.2.2.1, m.2.2.2.2.2.1, m.2.2.2.2.2.2.1, m.2.2.2.2.2.2.2.1, m.2.2.2.2.2.2.2.2.1, m.2.2.2.2.2.2.2.2.2.1, m.2.2.2.2.2.2.2.2.2.2.1, m.2.2.2.2.2.2.2.2.2.2.2.1, m.2.2.2.2.2.2.2.2.2.2.2.2.1, m.2.2.2.2.2.2.2.2.2.2.2.2.2.1, m.2.2.2.2.2.2.2.2.2.2.2.2.2.2.1, m.2.2.2.2.2.2.2.2.2.2.2.2.2.2.2.1, (0 : Int), (0 : Int), [], [], [], [], (0 : Int), (0 : Int), (0 : Int), (0 : Int), (0 : Int), (0 : Int), (0 : Int), (0 : Int), (0 : Int), [], m.1, m.2.1, m.2.2.1, m.2.2.2.1, m.2.2.2.2.1, m.2.2.2.2.2.1, m.2.2.2.2.2.2.1, m.2.2.2.2.2.2.2.1, m.2.2.2.2.2.2.2.2.1, v, m.2.2.2.2.2.2.2.2.2.2.1, m.2.2.2.2.2.2.2.2.2.2.2.1, m.2.2.2.2.2.2.2.2.2.2.2.2.1, m.2.2.2.2.2.2.2.2.2.2.2.2.2.1, m.2.2.2.2.2.2.2.2.2.2.2.2.2.2.1, m.2.2.2.2.2.2.2.2.2.2.2.2.2.2.2.1, jz m.2.2.2.1 m.2.2.2.2.2.2.2.2.2.1 k, ()) ∧ v = m.2.2.2.2.2.2.2.2.2.1 + ((k : Nat) : Int) ∧ v ≤ ((n : Nat) : Int) ∧ ∀ j, j < k → ¬ xV m.2.2.2.1 m.2.2.2.2.2.2.2.2.1 (m.2.2.2.2.2.2.2.2.2.1 + ((j + 1 : Nat) : Int))) _ ?_ ⟨m.2.2.2.2.2.2.2.2.2.1, rfl, rfl, by omega, hh.2, fun j h => by omega⟩
   rintro k x y hk ⟨v, rfl, rfl, q1, q2, q3⟩
   by_cases bQ : v < ((n : Nat) : Int)
   · have hw : IntKind.i64.wrap (v + (1 : Int)) = m.2.2.2.2.2.2.2.2.2.1 + ((k + 1 : Nat) : Int) := by rw [ft] <;> omega
     have hbl : Nat.ble (((jz m.2.2.2.1 m.2.2.2.2.2.2.2.2.2.1 k).length + 1) * 40) lim = true := aH (by rw [wP]; unfold lim; omega); have more : ¬ xV m.2.2.2.1 m.2.2.2.2.2.2.2.2.1 (m.2.2.2.2.2.2.2.2.2.1 + ((k + 1 : Nat) : Int)) → ∀ j, j < k + 1 → ¬ xV m.2.2.2.1 m.2.2.2.2.2.2.2.2.1 (m.2.2.2.2.2.2.2.2.2.1 + ((j + 1 : Nat) : Int)) := fun hnw j hj => by
       by_cases e : j < k
       · exact q3 j e
       · have : j = k := by omega
         subst this; exact hnw
     simp only [lr, rN, ot, sF, ah bQ, a2, hw, mT m.2.2.2.1 _ hl, qe m.2.2.2.1 _ hl, Option.bind_some, cond_true, hbl]
     by_cases c1 : (lF (cE m.2.2.2.1 (m.2.2.2.2.2.2.2.2.2.1 + ((k + 1 : Nat) : Int)))).2.2.1 = 2
     · rw [ah c1]
       by_cases c2 : m.2.2.2.2.2.2.2.2.1 < (lF (cE m.2.2.2.1 (m.2.2.2.2.2.2.2.2.2.1 + ((k + 1 : Nat) : Int)))).1
       · rw [ah c2]; exact .inl ⟨_, _, rfl, rfl, k, v, .inr rfl, rfl, q1, q2, q3, fun _ => ⟨c1, c2⟩⟩
       · rw [ai c2]; exact .inr ⟨by omega, _, _, rfl, rfl, m.2.2.2.2.2.2.2.2.2.1 + ((k + 1 : Nat) : Int), by rw [qg]; rfl, by rw [qg]; rfl, rfl, by omega, more fun h => c2 h.2⟩
     · rw [ai c1]; exact .inr ⟨by omega, _, _, rfl, rfl, m.2.2.2.2.2.2.2.2.2.1 + ((k + 1 : Nat) : Int), by rw [qg]; rfl, by rw [qg]; rfl, rfl, by omega, more fun h => c1 h.1⟩
   · simp only [lr, rN, ot, sF, ai bQ, a2, Option.bind_some, cond_false]; exact .inl ⟨_, _, rfl, rfl, k, v, .inl rfl, rfl, q1, q2, q3, fun h => absurd h bQ⟩
 simp only [a1, Option.bind_some, Bool.not_true, cond_false]; rw [g1, g2, g4]; refine ⟨k, v, ?_, rfl, g5, (fun h => by cases h), (fun _ => ⟨by first | exact g6 | (rw [hn]; exact g6), g7, fun h => g8 (by first | exact h | (rw [hn] at h; exact h))⟩)⟩; rcases g3 with rfl | rfl
 · rfl
 · rfl
def NJ {A B C : Type} (P : A → Prop) : Sum A B → Sum A C → Prop
 | .inl a, .inl b => a = b ∧ P a
 | _, _ => False
theorem Ea (ch : Int) (cj : Int) (a6 : Int) (bS : Int) (bW : Int) (bK : List (Int × Unit)) (bH : Int) (bP : List (Int × Unit)) (aG : List (ByteArray × Unit)) (h0 : List.length bK ≤ 1048576) : ∃ o0 o1 o2 o3 o4 o5 o6, mR ch cj a6 bS bW bK bH bP aG = some (o0, o1, o2, o3, o4, o5, o6, ()) ∧ jy ch cj a6 bS bW bK bH bP aG = some (o0, o1, o2, o3, o4, o5, o6, ()) ∧ o5 = bK ∧ (List.length o6 + wl nO o6) ≤ 1048576 := by
 obtain ⟨b, k1, k2, k3⟩ := sH ch cj a6 bS bW bK (by omega); obtain ⟨c1, c2⟩ := iq ch cj a6 bS bW bK (by omega); have hm : (if (3 : Int) < ((List.length aG : Nat) : Int) then (3 : Int) else ((List.length aG : Nat) : Int)) = ((min 3 aG.length : Nat) : Int) := by split <;> omega
 unfold mR jy; simp only [k1, k2, c1, c2, mS, oF, Option.bind_some]
 cases b
 · cases (decide (1 ≤ bH) && decide (bH ≤ 5))
   · exact ⟨_, _, _, _, _, bK, [], rfl, rfl, rfl, by decide⟩
   · exact ⟨_, _, _, _, _, bK, [], rfl, rfl, rfl, by decide⟩
 cases (decide (1 ≤ bH) && decide (bH ≤ 5))
 · exact ⟨_, _, _, _, _, bK, [], rfl, rfl, rfl, by decide⟩
 obtain ⟨z1, z2, z3, z4, z5, z6⟩ := k3 rfl; have Oo : (aG.take (min 3 aG.length)).length = min 3 aG.length := by simp
 simp only [Bool.not_true, cond_false, hm, aA, aq, cond_true, List.drop_zero, Oo, ah (show ((min 3 aG.length : Nat) : Int) ≤ ((List.length aG : Nat) : Int) by omega)]; obtain ⟨e, f, g1, g2, g3⟩ : ∃ e f, aE gT (bH, bP, aG, ch, cj, a6, bS, bW, bK, (0 : Int), (0 : Int), (0 : Int), (0 : Int), (0 : Int), [], ch, cj, a6, bS, bW, bK, [], (0 : Int), ()) = some e ∧
     aE cD (bH, bP, ch, cj, a6, bS, bW, bK, (0 : Int), (0 : Int), (0 : Int), (0 : Int), (0 : Int), [], ch, cj, a6, bS, bW, bK, [], aG.take (min 3 aG.length), ((min 3 aG.length : Nat) : Int), (0 : Int), ()) = some f ∧
     NJ (fun v => ∃ (q : Int) (l : aI), v = (ch, cj, a6, bS, bW, bK, (0 : Int), (0 : Int), (0 : Int), (0 : Int), (0 : Int), [], ch, cj, q, bS, bW, bK, l, ()) ∧ l.length ≤ 3 ∧ wl nO l ≤ 180) e f := by
   refine mF 3 (fun k x y => ∃ l : aI, x = (bH, bP, aG, ch, cj, a6, bS, bW, bK, (0 : Int), (0 : Int), (0 : Int), (0 : Int), (0 : Int), [], ch, cj, a6 + ((k : Nat) : Int), bS, bW, bK, l, ((k : Nat) : Int), ()) ∧
     y = (bH, bP, ch, cj, a6, bS, bW, bK, (0 : Int), (0 : Int), (0 : Int), (0 : Int), (0 : Int), [], ch, cj, a6 + ((k : Nat) : Int), bS, bW, bK, l, aG.take (min 3 aG.length), ((min 3 aG.length : Nat) : Int), ((k : Nat) : Int), ()) ∧ l.length = k ∧ wl nO l ≤ 60 * k) _ ?_ ⟨[], by rw [show a6 + ((0 : Nat) : Int) = a6 by omega]; rfl, by rw [show a6 + ((0 : Nat) : Int) = a6 by omega]; rfl, rfl, Nat.le_refl _⟩
   rintro k x y hk ⟨l, rfl, rfl, q1, q2⟩
   have stop : ∀ {A B : Type} (u : Sum _ A) (v : Sum _ B), u = .inl (ch, cj, a6, bS, bW, bK, (0 : Int), (0 : Int), (0 : Int), (0 : Int), (0 : Int), ([] : List (Int × Unit)), ch, cj, a6 + ((k : Nat) : Int), bS, bW, bK, l, ()) → v = .inl (ch, cj, a6, bS, bW, bK, (0 : Int), (0 : Int), (0 : Int), (0 : Int), (0 : Int), ([] : List (Int × Unit)), ch, cj, a6 + ((k : Nat) : Int), bS, bW, bK, l, ()) →
       NJ (fun v => ∃ (q : Int) (l : aI), v = (ch, cj, a6, bS, bW, bK, (0 : Int), (0 : Int), (0 : Int), (0 : Int), (0 : Int), ([] : List (Int × Unit)), ch, cj, q, bS, bW, bK, l, ()) ∧ l.length ≤ 3 ∧ wl nO l ≤ 180) u v := by
     intro A B u v e1 e2; subst e1 e2; exact ⟨rfl, _, l, rfl, by omega, by omega⟩
   by_cases h1 : k < aG.length
   · by_cases h4 : k < 3
     · have Ua : k < min 3 aG.length := by omega
       have zD : (aG.take (min 3 aG.length))[k]? = some aG[k] := by rw [List.getElem?_take_of_lt Ua]; exact List.getElem?_eq_getElem h1
       have e1 : IntKind.i64.wrap ((a6 + ((k : Nat) : Int)) + (1 : Int)) = a6 + ((k + 1 : Nat) : Int) := by rw [ft] <;> omega
       simp only [gT, ly, cD, eQ, az h1, az Ua, ah (show ((k : Nat) : Int) < (3 : Int) by omega), aq, cond_true, aA, List.getElem?_eq_getElem h1, zD, Option.bind_some, e1, aH (show (l.length + 1) * 40 ≤ lim by unfold lim; omega), aK (show k < 4611686018427387904 by omega)]
       by_cases h5 : a6 + ((k : Nat) : Int) < 60
       · rw [ah h5, ai (show ¬ (60 : Int) ≤ a6 + ((k : Nat) : Int) by omega)]
         by_cases h6 : ((ByteArray.size aG[k].1 : Nat) : Int) ≤ 60
         · rw [ah h6, ai (show ¬ (60 : Int) < ((ByteArray.size aG[k].1 : Nat) : Int) by omega)]; have add : ∀ lv : Int, wl nO (l ++ [(a6 + ((k + 1 : Nat) : Int), bH, lv, aG[k].1, ())]) ≤ 60 * (k + 1) := by
             intro lv; rw [RB]; have : wl nO [(a6 + ((k + 1 : Nat) : Int), bH, lv, aG[k].1, ())] = ByteArray.size aG[k].1 := rfl; omega
           by_cases h7 : k < bP.length
           · rw [az h7]; simp only [cond_true, cond_false, List.getElem?_eq_getElem h7, Option.bind_some]
             cases decide (bP[k].1 = 2)
             · exact .inr ⟨h4, _, _, rfl, rfl, _, rfl, rfl, by simp [q1], add 1⟩
             · exact .inr ⟨h4, _, _, rfl, rfl, _, rfl, rfl, by simp [q1], add 2⟩
           · rw [ai (show ¬ ((k : Nat) : Int) < ((List.length bP : Nat) : Int) by omega)]; exact .inr ⟨h4, _, _, rfl, rfl, _, rfl, rfl, by simp [q1], add 1⟩
         · rw [ai h6, ah (show (60 : Int) < ((ByteArray.size aG[k].1 : Nat) : Int) by omega)]; exact .inl ⟨_, _, rfl, rfl, stop _ _ rfl rfl⟩
       · rw [ai h5, ah (show (60 : Int) ≤ a6 + ((k : Nat) : Int) by omega)]; exact .inl ⟨_, _, rfl, rfl, stop _ _ rfl rfl⟩
     · have X7 : k = 3 := by omega
       refine .inl ⟨_, _, ?_, ?_, stop _ _ rfl rfl⟩
       · simp only [gT, ly, az h1, ai (show ¬ ((k : Nat) : Int) < (3 : Int) by omega), cond_true, cond_false]
       · simp only [cD, eQ, ai (show ¬ ((k : Nat) : Int) < ((min 3 aG.length : Nat) : Int) by omega), cond_false]
   · refine .inl ⟨_, _, ?_, ?_, stop _ _ rfl rfl⟩
     · simp only [gT, ly, ai (show ¬ ((k : Nat) : Int) < ((List.length aG : Nat) : Int) by omega), cond_false]
     · simp only [cD, eQ, ai (show ¬ ((k : Nat) : Int) < ((min 3 aG.length : Nat) : Int) by omega), cond_false]
 rw [g1, g2]
 cases e with
 | inr e => exact g3.elim
 | inl e => cases f with
   | inr f => exact g3.elim
   | inl f =>
     obtain ⟨rfl, q, l, rfl, q1, q2⟩ := g3; simp only [iz]
     cases decide (bS = a6)
     · exact ⟨_, _, _, _, _, bK, l, rfl, rfl, rfl, by omega⟩
     · cases decide (bW = 0)
       · exact ⟨_, _, _, _, _, bK, l, rfl, rfl, rfl, by omega⟩
       · exact ⟨_, _, _, _, _, bK, l, rfl, rfl, rfl, by omega⟩
def uV (c2 from_ : Int) (level : List (Int × Unit)) (texts : List (ByteArray × Unit)) (j : Nat) : db :=
 (c2 + ((j + 1 : Nat) : Int), from_, (bif decide (j < level.length) && decide ((level.getD j ((0 : Int), ())).1 = 2) then 2 else 1), (texts.getD j (ByteArray.empty, ())).1, ())
def cP (c2 from_ : Int) (level : List (Int × Unit)) (texts : List (ByteArray × Unit)) (m : Nat) : aI := (List.range m).map (uV c2 from_ level texts)
theorem lG (c2 from_ : Int) (level : List (Int × Unit)) (texts : List (ByteArray × Unit)) (m : Nat) : (cP c2 from_ level texts m).length = m := by simp [cP]
theorem Cm (c2 from_ : Int) (level : List (Int × Unit)) (texts : List (ByteArray × Unit)) (m : Nat) : cP c2 from_ level texts (m + 1) = cP c2 from_ level texts m ++ [uV c2 from_ level texts m] := by
 unfold cP; rw [List.range_succ, List.map_append]; rfl
def zV (c2 : Int) (texts : List (ByteArray × Unit)) (m : Nat) : Prop := m = min 3 texts.length ∨ 60 ≤ c2 + ((m : Nat) : Int) ∨ ∃ h : m < texts.length, 60 < ByteArray.size texts[m].1
theorem Ia (ch : Int) (cj : Int) (a6 : Int) (bS : Int) (bW : Int) (bK : List (Int × Unit)) (bH : Int) (bP : List (Int × Unit)) (aG : List (ByteArray × Unit)) (h0 : List.length bK ≤ 1048576) (h3 : List.length aG ≤ 1048576) (hd : 1 ≤ bH ∧ bH ≤ 5) (ht : T8 ch cj a6 bS bW bK) :
   ∃ m t3, jy ch cj a6 bS bW bK bH bP aG = some (ch, cj, a6 + ((m : Nat) : Int), t3, bW, bK, cP a6 bH bP aG m, ()) ∧ m ≤ 3 ∧ m ≤ aG.length ∧ a6 + ((m : Nat) : Int) ≤ 60 ∧ (t3 = bS ∨ t3 = a6 + ((m : Nat) : Int)) ∧ zV a6 aG m ∧ t3 = (if bS = a6 ∧ bW = 0 then a6 + ((m : Nat) : Int) else bS) := by
 obtain ⟨b, _, k2, k3⟩ := C7 ch cj a6 bS bW bK h0; have hb := k3.2 ht; subst hb; obtain ⟨_, c2⟩ := iq ch cj a6 bS bW bK h0; obtain ⟨_, _, z2, z3, _⟩ := ht; have hm : (if (3 : Int) < ((List.length aG : Nat) : Int) then (3 : Int) else ((List.length aG : Nat) : Int)) = ((min 3 aG.length : Nat) : Int) := by split <;> omega
 have Oo : (aG.take (min 3 aG.length)).length = min 3 aG.length := by simp
 unfold jy; simp only [k2, c2, oF, ah hd.1, ah hd.2, Bool.and_self, Option.bind_some, Bool.not_true, cond_false, hm, aA, aq, cond_true, List.drop_zero, Oo, ah (show ((min 3 aG.length : Nat) : Int) ≤ ((List.length aG : Nat) : Int) by omega)]; have fin : ∀ (k : Nat), ∃ v : Int × Int × Int × Int × Int × (List (Int × Unit)) × Int × Int × Int × Int × Int × (List (Int × Unit)) × Int × Int × Int × Int × Int × (List (Int × Unit)) × aI × Unit, v = (ch, cj, a6, bS, bW, bK, (0 : Int), (0 : Int), (0 : Int), (0 : Int), (0 : Int), [], ch, cj, a6 + ((k : Nat) : Int), bS, bW, bK, cP a6 bH bP aG k, ()) := fun k => ⟨_, rfl⟩
 obtain ⟨e, g1, m, g2, g3, g4, g5, g6⟩ : ∃ e, aE cD (bH, bP, ch, cj, a6, bS, bW, bK, (0 : Int), (0 : Int), (0 : Int), (0 : Int), (0 : Int), [], ch, cj, a6, bS, bW, bK, [], aG.take (min 3 aG.length), ((min 3 aG.length : Nat) : Int), (0 : Int), ()) = some e ∧
     ∃ m : Nat, e = .inl (ch, cj, a6, bS, bW, bK, (0 : Int), (0 : Int), (0 : Int), (0 : Int), (0 : Int), [], ch, cj, a6 + ((m : Nat) : Int), bS, bW, bK, cP a6 bH bP aG m, ()) ∧ m ≤ 3 ∧ m ≤ aG.length ∧ a6 + ((m : Nat) : Int) ≤ 60 ∧ zV a6 aG m := by
   refine eo (min 3 aG.length) (fun k x => x = (bH, bP, ch, cj, a6, bS, bW, bK, (0 : Int), (0 : Int), (0 : Int), (0 : Int), (0 : Int), [], ch, cj, a6 + ((k : Nat) : Int), bS, bW, bK, cP a6 bH bP aG k, aG.take (min 3 aG.length), ((min 3 aG.length : Nat) : Int), ((k : Nat) : Int), ()) ∧ a6 + ((k : Nat) : Int) ≤ 60) _ ?_ ?_ ⟨by rw [show a6 + ((0 : Nat) : Int) = a6 by omega]; rfl, by omega⟩
   · rintro x ⟨rfl, q⟩
     exact ⟨_, by simp only [cD, eQ, aF, cond_false], _, rfl, by omega, by omega, q, .inl rfl⟩
   · rintro k x Ua ⟨rfl, q⟩
     have h1 : k < aG.length := by omega
     have zD : (aG.take (min 3 aG.length))[k]? = some aG[k] := by rw [List.getElem?_take_of_lt Ua]; exact List.getElem?_eq_getElem h1
     have hgt : (aG.getD k (ByteArray.empty, ())).1 = aG[k].1 := by rw [List.getD_eq_getElem?_getD, List.getElem?_eq_getElem h1, Option.getD_some]
     have stop : zV a6 aG k → ∃ m : Nat, (.inl (ch, cj, a6, bS, bW, bK, (0 : Int), (0 : Int), (0 : Int), (0 : Int), (0 : Int), [], ch, cj, a6 + ((k : Nat) : Int), bS, bW, bK, cP a6 bH bP aG k, ()) : Sum _ Unit) = .inl (ch, cj, a6, bS, bW, bK, (0 : Int), (0 : Int), (0 : Int), (0 : Int), (0 : Int), ([] : List (Int × Unit)), ch, cj, a6 + ((m : Nat) : Int), bS, bW, bK, cP a6 bH bP aG m, ()) ∧ m ≤ 3 ∧ m ≤ aG.length ∧ a6 + ((m : Nat) : Int) ≤ 60 ∧ zV a6 aG m :=
       fun hq => ⟨k, rfl, by omega, by omega, q, hq⟩
     by_cases h5 : (60 : Int) ≤ a6 + ((k : Nat) : Int)
     · refine .inl ⟨_, ?_, stop (.inr (.inl h5))⟩; simp only [cD, eQ, az Ua, aq, cond_true, aA, zD, Option.bind_some, ah h5]
     have e1 : IntKind.i64.wrap ((a6 + ((k : Nat) : Int)) + (1 : Int)) = a6 + ((k + 1 : Nat) : Int) := by rw [ft] <;> omega
     by_cases h6 : (60 : Int) < ((ByteArray.size aG[k].1 : Nat) : Int)
     · refine .inl ⟨_, ?_, stop (.inr (.inr ⟨h1, by omega⟩))⟩; simp only [cD, eQ, az Ua, aq, cond_true, cond_false, aA, zD, Option.bind_some, ai h5, ah h6]
     refine .inr ⟨_, ?_, rfl, by omega⟩; have hlen := lG a6 bH bP aG k; simp only [cD, eQ, az Ua, aq, cond_true, cond_false, aA, zD, Option.bind_some, ai h5, ai h6, e1, hlen, aH (show (k + 1) * 40 ≤ lim by unfold lim; omega), aK (show k < 4611686018427387904 by omega)]; rw [Cm]; unfold uV; rw [hgt]
     by_cases h7 : k < bP.length
     · have hgl : bP.getD k ((0 : Int), ()) = bP[k] := by rw [List.getD_eq_getElem?_getD, List.getElem?_eq_getElem h7, Option.getD_some]
       rw [az h7, ah h7, hgl]; simp only [cond_true, List.getElem?_eq_getElem h7, Option.bind_some, Bool.true_and]
       cases decide (bP[k].1 = 2) <;> rfl
     · rw [ai (show ¬ ((k : Nat) : Int) < ((List.length bP : Nat) : Int) by omega), ai h7]; rfl
 rw [g1]; subst g2; simp only [iz]
 by_cases w1 : bS = a6
 · rw [ah w1]
   by_cases w2 : bW = 0
   · rw [ah w2]; exact ⟨m, _, rfl, g3, g4, g5, .inr rfl, g6, by rw [if_pos ⟨w1, w2⟩]⟩
   · rw [ai w2]; exact ⟨m, _, rfl, g3, g4, g5, .inl rfl, g6, by rw [if_neg (fun h => w2 h.2)]⟩
 · rw [ai w1]; exact ⟨m, _, rfl, g3, g4, g5, .inl rfl, g6, by rw [if_neg (fun h => w1 h.1)]⟩
def zv (c2 c3 c4 d a : Int) : Int := if a < c3 then a else if c4 = d then (if c2 < a then c2 else a) else c3
def zw (c2 c3 c4 d a : Int) : Int := if a < c3 then d else if c4 = d then (if c2 ≤ a then 0 else c4) else c4
theorem NK (c0 c1 c2 c3 c4 : Int) (xs : List (Int × Unit)) (d a : Int) (h : xs.length ≤ 1048576) {b : Bool} (hb : ck c0 c1 c2 c3 c4 xs = some (b, ())) :
   ∃ t3 t4, qU c0 c1 c2 c3 c4 xs d a = some (c0, c1, c2, t3, t4, xs, ()) ∧ qY c0 c1 c2 c3 c4 xs d a = some (c0, c1, c2, t3, t4, xs, ()) ∧
     (b = false ∨ d < 1 ∨ 5 < d ∨ a < 0 → t3 = c3 ∧ t4 = c4) ∧ (b = true → 1 ≤ d → d ≤ 5 → 0 ≤ a → 0 ≤ c3 → c3 ≤ c2 → 0 ≤ t3 ∧ t3 ≤ c2 ∧ t3 ≤ a ∧ (t3 ≤ c3 ∨ c4 = d) ∧ (t4 = c4 ∨ t4 = d ∨ (t4 = 0 ∧ c4 = d))) ∧ (b = true → 1 ≤ d → d ≤ 5 → 0 ≤ a → t3 = zv c2 c3 c4 d a ∧ t4 = zw c2 c3 c4 d a) := by
 obtain ⟨b', h1, h2, _⟩ := sH c0 c1 c2 c3 c4 xs h; rw [hb] at h1; obtain rfl : b = b' := by injection h1 with h1; injection h1
 obtain ⟨h3, h4⟩ := iq c0 c1 c2 c3 c4 xs h; unfold qU qY; simp only [Option.bind_some, hb, h2, h3, h4, mS, oF]
 cases b
 · have : ∀ t3 t4 : Int, t3 = c3 → t4 = c4 → (false = false ∨ d < 1 ∨ 5 < d ∨ a < 0 → t3 = c3 ∧ t4 = c4) ∧ (false = true → 1 ≤ d → d ≤ 5 → 0 ≤ a → 0 ≤ c3 → c3 ≤ c2 → 0 ≤ t3 ∧ t3 ≤ c2 ∧ t3 ≤ a ∧ (t3 ≤ c3 ∨ c4 = d) ∧ (t4 = c4 ∨ t4 = d ∨ (t4 = 0 ∧ c4 = d))) ∧ (false = true → 1 ≤ d → d ≤ 5 → 0 ≤ a → t3 = zv c2 c3 c4 d a ∧ t4 = zw c2 c3 c4 d a) :=
     fun t3 t4 e1 e2 => ⟨fun _ => ⟨e1, e2⟩, (fun h => by cases h), (fun h => by cases h)⟩
   cases (decide (1 ≤ d) && decide (d ≤ 5))
   · exact ⟨_, _, rfl, rfl, this _ _ rfl rfl⟩
   cases decide (a < 0)
   · exact ⟨_, _, rfl, rfl, this _ _ rfl rfl⟩
   · exact ⟨_, _, rfl, rfl, this _ _ rfl rfl⟩
 by_cases hd : 1 ≤ d ∧ d ≤ 5
 · rw [ah hd.1, ah hd.2]
   by_cases ha : a < 0
   · rw [ah ha]; exact ⟨_, _, rfl, rfl, (fun _ => ⟨rfl, rfl⟩), (fun _ _ _ h => by omega), (fun _ _ _ h => by omega)⟩
   rw [ai ha]; have no : ∀ {A : Prop}, (true = false ∨ d < 1 ∨ 5 < d ∨ a < 0) → A := by
     rintro A (h | h | h | h)
     · cases h
     · omega
     · omega
     · omega
   by_cases h5 : a < c3
   · rw [ah h5]; exact ⟨_, _, rfl, rfl, no, (fun _ _ _ _ _ _ => ⟨by omega, by omega, by omega, .inl (by omega), .inr (.inl rfl)⟩), fun _ _ _ _ => by unfold zv zw; rw [if_pos h5, if_pos h5]; exact ⟨rfl, rfl⟩⟩
   rw [ai h5]
   by_cases h6 : c4 = d
   · rw [ah h6]
     by_cases h7 : c2 < a
     · rw [ah h7, if_pos h7, ah (show c2 = c2 from rfl)]; exact ⟨_, _, rfl, rfl, no, (fun _ _ _ _ _ _ => ⟨by omega, by omega, by omega, .inr h6, .inr (.inr ⟨rfl, h6⟩)⟩), fun _ _ _ _ => by unfold zv zw; rw [if_neg h5, if_neg h5, if_pos h6, if_pos h6, if_pos h7, if_pos (by omega)]; exact ⟨rfl, rfl⟩⟩
     · rw [ai h7, if_neg h7]
       by_cases h8 : a = c2
       · rw [ah h8]; exact ⟨_, _, rfl, rfl, no, (fun _ _ _ _ _ _ => ⟨by omega, by omega, by omega, .inr h6, .inr (.inr ⟨rfl, h6⟩)⟩), fun _ _ _ _ => by unfold zv zw; rw [if_neg h5, if_neg h5, if_pos h6, if_pos h6, if_neg h7, if_pos (by omega)]; exact ⟨rfl, rfl⟩⟩
       · rw [ai h8]; exact ⟨_, _, rfl, rfl, no, (fun _ _ _ _ _ _ => ⟨by omega, by omega, by omega, .inr h6, .inl rfl⟩), fun _ _ _ _ => by unfold zv zw; rw [if_neg h5, if_neg h5, if_pos h6, if_pos h6, if_neg h7, if_neg (by omega)]; exact ⟨rfl, rfl⟩⟩
   · rw [ai h6]; exact ⟨_, _, rfl, rfl, no, (fun _ _ _ _ _ _ => ⟨by omega, by omega, by omega, .inl (by omega), .inl rfl⟩), fun _ _ _ _ => by unfold zv zw; rw [if_neg h5, if_neg h5, if_neg h6, if_neg h6]; exact ⟨rfl, rfl⟩⟩
 · have e : (decide (1 ≤ d) && decide (d ≤ 5)) = false := by
     cases hq : (decide (1 ≤ d) && decide (d ≤ 5))
     · rfl
     · rw [Bool.and_eq_true, decide_eq_true_eq, decide_eq_true_eq] at hq; exact absurd hq hd
   rw [e]; exact ⟨_, _, rfl, rfl, (fun _ => ⟨rfl, rfl⟩), (fun _ h1 h2 => absurd ⟨h1, h2⟩ hd), (fun _ h1 h2 => absurd ⟨h1, h2⟩ hd)⟩
theorem Eb (d : Int) (xs : List (Int × Unit)) (h : xs.length ≤ 1048576) : du xs d = some (decide (d ∈ aZ xs), ()) := by
 obtain ⟨e, he, hq⟩ := eo (round := b8) (x := (xs, d, ((0 : Nat) : Int), ())) xs.length (fun k x => x = (xs, d, ((k : Nat) : Int), ()) ∧ d ∉ aZ (xs.take k)) (fun e => (e = .inl () ∧ d ∉ aZ xs) ∨ (e = .inr (true, ()) ∧ d ∈ aZ xs)) (by
     rintro x ⟨rfl, g⟩
     rw [List.take_length] at g; exact ⟨.inl (), by simp only [b8, gC, aF, cond_false], .inl ⟨rfl, g⟩⟩) (by
     rintro k x hk ⟨rfl, g⟩
     simp only [b8, gC, az hk, aq, cond_true, aA, List.getElem?_eq_getElem hk, Option.bind_some, aK (show k < 4611686018427387904 by omega)]
     by_cases e : xs[k].1 = d
     · rw [ah e]; exact .inl ⟨_, rfl, .inr ⟨rfl, by rw [← e]; exact List.mem_map_of_mem (List.getElem_mem hk)⟩⟩
     · rw [ai e]; refine .inr ⟨_, rfl, rfl, ?_⟩; rw [List.take_succ_eq_append_getElem hk]; unfold aZ at g ⊢; rw [List.map_append, List.mem_append]
       rintro (h1 | h1)
       · exact g h1
       · simp only [List.map_cons, List.map_nil, List.mem_singleton] at h1; exact e h1.symm) ⟨rfl, by simp [aZ]⟩
 have he : aE b8 (xs, d, (0 : Int), ()) = some e := he; unfold du; rw [he]; rcases hq with ⟨rfl, g⟩ | ⟨rfl, g⟩
 · rw [ai g]; rfl
 · rw [ah g]; rfl
theorem Ec (d : Int) (xs : List (Int × Unit)) (h : xs.length ≤ 1048576) : dZ xs d = some (decide (d ∈ aZ xs), ()) := by
 obtain ⟨b, h1, h2⟩ := vA d xs h; rw [Eb d xs h] at h1; injection h1 with h1; injection h1 with h1 _; rw [h2, h1]
def hasB (list : aI) (s : Int) : Bool := (cE list s).isSome
theorem uB (o : Option db) : (lF o).2.2.2.2.1 = o.isSome := by cases o <;> rfl
def Ed {B C : Type} (list : aI) (u : Int) : Sum ((List (Int × Unit)) × Unit) B → Sum ((List (Int × Unit)) × Unit) C → Prop
 | .inl a, .inl b => a = b ∧ ∃ ms : List Int, a.1 = aN ms ∧ ms.length ≤ 20 ∧ ∀ s ∈ ms, 1 ≤ s ∧ s ≤ u ∧ hasB list s = false
 | _, _ => False
theorem xW (list : aI) (upto u : Int) (n : Nat) (h : list.length ≤ 1048576) (hn : n ≤ 1048576) (hu : (if (60 : Int) < upto then (60 : Int) else upto) = u) (agC : u ≤ 60) :
   ∃ e f, aE fc (list, u, [], ((n + 1 : Nat) : Int), ()) = some e ∧ aE fZ (list, upto, [], ((n + 1 : Nat) : Int), ()) = some f ∧ Ed list u e f := by
 refine mF 61 (fun k x y => ∃ ms : List Int, x = (list, u, aN ms, ((n + 1 + k : Nat) : Int), ()) ∧ y = (list, upto, aN ms, ((n + 1 + k : Nat) : Int), ()) ∧ ms.length ≤ 20 ∧ ∀ s ∈ ms, 1 ≤ s ∧ s ≤ u ∧ hasB list s = false) (Ed list u) ?_ ⟨[], rfl, rfl, by simp, fun s hs => by cases hs⟩
 rintro k x y hk ⟨ms, rfl, rfl, q1, q2⟩
 have stop : Ed (B := Unit) (C := Unit) list u (.inl (aN ms, ())) (.inl (aN ms, ())) := ⟨rfl, ms, rfl, q1, q2⟩
 by_cases bQ : ((n + 1 + k : Nat) : Int) ≤ u
 case neg =>
   refine .inl ⟨.inl (aN ms, ()), .inl (aN ms, ()), ?_, ?_, ⟨rfl, ms, rfl, q1, q2⟩⟩
   · simp only [fc, kn, ai bQ, cond_false]
   · simp only [fZ, ko, hu, ai bQ, cond_false]
 by_cases QI : ((List.length (aN ms) : Nat) : Int) < 20
 case neg =>
   refine .inl ⟨.inl (aN ms, ()), .inl (aN ms, ()), ?_, ?_, ⟨rfl, ms, rfl, q1, q2⟩⟩
   · simp only [fc, kn, ah bQ, ai QI, cond_true, cond_false]
   · simp only [fZ, ko, hu, ah bQ, ai QI, cond_true, cond_false]
 have hl : (aN ms).length = ms.length := bJ ms; simp only [fc, kn, fZ, ko, hu, ah bQ, ah QI, cond_true, mT list _ h, qe list _ h, Option.bind_some, uB, aH (show ((aN ms).length + 1) * 8 ≤ lim by unfold lim; omega), aK (show n + 1 + k < 4611686018427387904 by omega)]
 cases hh : (cE list ((n + 1 + k : Nat) : Int)).isSome
 · refine .inr ⟨by omega, _, _, rfl, rfl, ms ++ [((n + 1 + k : Nat) : Int)], by simp [aN]; omega, by simp [aN]; omega, by simp; omega, fun s hs => ?_⟩; rcases List.mem_append.1 hs with hs | hs
   · exact q2 s hs
   · rw [List.mem_singleton] at hs; subst hs; exact ⟨by omega, by omega, hh⟩
 · exact .inr ⟨by omega, _, _, rfl, rfl, ms, by rw [show n + 1 + k + 1 = n + 1 + (k + 1) by omega], by rw [show n + 1 + k + 1 = n + 1 + (k + 1) by omega], q1, q2⟩
theorem F8 (list : aI) (upto : Int) (h : list.length ≤ 1048576) : ∃ ms : List Int, lz list upto = some (aN ms, ()) ∧ lC list upto = some (aN ms, ()) ∧ ms.length ≤ 20 ∧ ∀ s ∈ ms, 1 ≤ s ∧ (s ≤ 60 ∧ s ≤ upto) ∧ hasB list s = false := by
 obtain ⟨n, a1, a2, a3, _⟩ := Bx list h; have hw : IntKind.i64.wrap (((n : Nat) : Int) + (1 : Int)) = ((n + 1 : Nat) : Int) := aK (by omega); unfold lz lC; simp only [a1, a2, Option.bind_some, hw]
 by_cases hu : (60 : Int) < upto
 · obtain ⟨e, f, g1, g2, g3⟩ := xW list upto 60 n h (by omega) (if_pos hu) (by omega); rw [ah hu]; simp only [cond_true, g1, g2]
   cases e with
   | inr e => exact g3.elim
   | inl e => cases f with
     | inr f => exact g3.elim
     | inl f =>
       obtain ⟨rfl, ms, k1, k2, k3⟩ := g3; simp only [iz]; exact ⟨ms, by rw [k1], by rw [k1], k2, fun s hs => ⟨(k3 s hs).1, ⟨(k3 s hs).2.1, by have := (k3 s hs).2.1; omega⟩, (k3 s hs).2.2⟩⟩
 · obtain ⟨e, f, g1, g2, g3⟩ := xW list upto upto n h (by omega) (if_neg hu) (by omega); rw [ai hu]; simp only [cond_false, g1, g2]
   cases e with
   | inr e => exact g3.elim
   | inl e => cases f with
     | inr f => exact g3.elim
     | inl f =>
       obtain ⟨rfl, ms, k1, k2, k3⟩ := g3; simp only [iz]; exact ⟨ms, by rw [k1], by rw [k1], k2, fun s hs => ⟨(k3 s hs).1, ⟨by have := (k3 s hs).2.1; omega, (k3 s hs).2.1⟩, (k3 s hs).2.2⟩⟩
theorem BD : ∀ (a b : List Int), a.Pairwise (· < ·) → b.Pairwise (· < ·) → (∀ x, x ∈ a ↔ x ∈ b) → a = b
 | [], [], _, _, _ => rfl
 | [], y :: b, _, _, h => absurd ((h y).2 List.mem_cons_self) (by simp)
 | x :: a, [], _, _, h => absurd ((h x).1 List.mem_cons_self) (by simp)
 | x :: a, y :: b, ha, hb, h => by
   rw [List.pairwise_cons] at ha hb; have hxy : x = y := by
     rcases List.mem_cons.1 ((h x).1 List.mem_cons_self) with e | e
     · exact e
     · have h1 := hb.1 x e; rcases List.mem_cons.1 ((h y).2 List.mem_cons_self) with e2 | e2
       · exact e2.symm
       · have h2 := ha.1 y e2; omega
   subst hxy
   congr 1
   refine BD a b ha.2 hb.2 fun z => ⟨fun hz => ?_, fun hz => ?_⟩
   · rcases List.mem_cons.1 ((h z).1 (List.mem_cons_of_mem _ hz)) with e | e
     · have := ha.1 z hz; omega
     · exact e
   · rcases List.mem_cons.1 ((h z).2 (List.mem_cons_of_mem _ hz)) with e | e
     · have := hb.1 z hz; omega
     · exact e
theorem Pn (l : List Int) : (l.mergeSort fun x y => decide (x ≤ y)).Pairwise (· ≤ ·) := by
 have := List.pairwise_mergeSort (le := fun x y : Int => decide (x ≤ y)) (fun a b c h1 h2 => by simp only [decide_eq_true_eq] at *; omega) (fun a b => by simp only [Bool.or_eq_true, decide_eq_true_eq]; omega) l; exact this.imp fun h => by simpa using h
theorem NL (l : List Int) (x : Int) : x ∈ (l.mergeSort fun x y => decide (x ≤ y)) ↔ x ∈ l := (List.mergeSort_perm l _).mem_iff
theorem q8 (l : List Int) (j : Nat) (h : j < l.length) : l.toArray[j]! = l[j] := by
 rw [getElem!_pos l.toArray j (by simpa using h)]; simp
theorem BE (l : List Int) (h : l.Pairwise (· ≤ ·)) : (Lib.compact l).Pairwise (· < ·) := by
 unfold Lib.compact Lib.compactUpTo; rw [List.pairwise_map]; have hr : ((List.range l.length).filter (Lib.keeps l.toArray)).Pairwise (· < ·) := List.Pairwise.filter _ List.pairwise_lt_range; refine hr.imp_of_mem fun {i j} hi hj N8 => ?_
 obtain ⟨Yv, _⟩ := List.mem_filter.1 hi; obtain ⟨Ob, L9⟩ := List.mem_filter.1 hj; have Yv := List.mem_range.1 Yv; have Ob := List.mem_range.1 Ob; have hk : l.toArray[j]! ≠ l.toArray[j - 1]! := by
   unfold Lib.keeps at L9; rw [decide_eq_true_eq] at L9; exact L9.resolve_left (by omega)
 have hp := List.pairwise_iff_getElem.1 h; have h1 := hp (j - 1) j (by omega) Ob (by omega); rw [q8 l j Ob, q8 l (j - 1) (by omega)] at hk; rw [q8 l i Yv, q8 l j Ob]
 by_cases e : i = j - 1
 · subst e; omega
 · have h2 := hp i (j - 1) Yv (by omega) (by omega); omega
theorem F9 (l : List Int) (x : Int) : x ∈ Lib.compact l ↔ x ∈ l := by
 unfold Lib.compact Lib.compactUpTo; rw [List.mem_map]
 constructor
 · rintro ⟨j, hj, rfl⟩
   have Ob := List.mem_range.1 (List.mem_filter.1 hj).1; rw [q8 l j Ob]; exact List.getElem_mem Ob
 · intro hx; have key : ∀ j, j < l.length → ∃ i, i ∈ (List.range l.length).filter (Lib.keeps l.toArray) ∧ l.toArray[i]! = l.toArray[j]! := by
     intro j
     induction j with
     | zero => intro h0; exact ⟨0, List.mem_filter.2 ⟨List.mem_range.2 h0, by simp [Lib.keeps]⟩, rfl⟩
     | succ j ih =>
       intro hj
       by_cases e : l.toArray[j + 1]! = l.toArray[j]!
       · obtain ⟨i, h1, h2⟩ := ih (by omega); exact ⟨i, h1, by rw [h2, e]⟩
       · exact ⟨j + 1, List.mem_filter.2 ⟨List.mem_range.2 hj, by unfold Lib.keeps; rw [decide_eq_true_eq, Nat.add_sub_cancel]; exact .inr e⟩, rfl⟩
   obtain ⟨j, hj, rfl⟩ := List.mem_iff_getElem.1 hx; obtain ⟨i, h1, h2⟩ := key j hj; exact ⟨i, h1, by rw [h2, q8 l j hj]⟩
def ints (n : Nat) : List Int := (List.range n).map fun i => ((i + 1 : Nat) : Int)
theorem Da (n : Nat) : ints (n + 1) = ints n ++ [((n + 1 : Nat) : Int)] := by
 unfold ints; rw [List.range_succ, List.map_append]; rfl
theorem NM (n : Nat) (x : Int) : x ∈ ints n ↔ 1 ≤ x ∧ x ≤ ((n : Nat) : Int) := by
 unfold ints; rw [List.mem_map]
 constructor
 · rintro ⟨i, hi, rfl⟩
   have := List.mem_range.1 hi; omega
 · rintro ⟨h1, h2⟩
   exact ⟨(x - 1).toNat, List.mem_range.2 (by omega), by omega⟩
theorem zx (n : Nat) : (ints n).Pairwise (· < ·) := by
 unfold ints; rw [List.pairwise_map]; exact List.pairwise_lt_range.imp fun h => by omega
theorem BF : ∀ (k d : Nat), ∃ r, ints (k + d) = ints k ++ r
 | k, 0 => ⟨[], by simp⟩
 | k, d + 1 => by
   obtain ⟨r, h⟩ := BF k d; exact ⟨r ++ [((k + d + 1 : Nat) : Int)], by rw [show k + (d + 1) = (k + d) + 1 by omega, Da, h, List.append_assoc]⟩
theorem Ib (a b : List Int) : aN (a ++ b) = aN a ++ aN b := by simp [aN]
theorem Ga (a : List Int) (n : Nat) : aN (a.take n) = (aN a).take n := by simp [aN, List.map_take]
theorem my (a : List Int) : aZ (aN a) = a := by simp [aZ, aN, Function.comp_def]
def fC (list : aI) (xs : List (Int × Unit)) (ms : List Int) (s : Int) : Bool := (!hasB list s && decide (s ∈ aZ xs)) || decide (s ∈ ms)
def iM (list : aI) (xs : List (Int × Unit)) (ms : List Int) : List Int := ((ints 60).filter (fC list xs ms)).take 20
abbrev QJ : Type := aI × Int × Int × Int × Int × Int × (List (Int × Unit)) × Int × Int × Int × Int × Int × (List (Int × Unit)) × Int × Int × Int × Int × Int × (List (Int × Unit)) × (List (Int × Unit)) × Int × Unit
theorem Ic (t0 t1 t2 t3 t4 : Int) (xs : List (Int × Unit)) (list : aI) (ms : List Int) (h : list.length ≤ 1048576) (hx : xs.length ≤ 1048576) (hm : lz list t2 = some (aN ms, ())) (Yw : ms.length ≤ 20) :
   bT t0 t1 t2 t3 t4 xs list = some (t0, t1, t2, t3, t4, aN (iM list xs ms), ()) := by
 have Oo : (aN ms).length ≤ 1048576 := by rw [bJ]; omega
 obtain ⟨e, he, rfl⟩ := eo (round := iQ) (x := (list, t0, t1, t2, t3, t4, xs, (0 : Int), (0 : Int), (0 : Int), (0 : Int), (0 : Int), [], t0, t1, t2, t3, t4, [], aN ms, ((0 + 1 : Nat) : Int), ())) 60
   (fun k x => x = (list, t0, t1, t2, t3, t4, xs, (0 : Int), (0 : Int), (0 : Int), (0 : Int), (0 : Int), [], t0, t1, t2, t3, t4, aN ((ints k).filter (fC list xs ms)), aN ms, ((k + 1 : Nat) : Int), ()) ∧ ((ints k).filter (fC list xs ms)).length ≤ 20)
   (fun e => e = .inl ((0 : Int), (0 : Int), (0 : Int), (0 : Int), (0 : Int), [], t0, t1, t2, t3, t4, aN (iM list xs ms), ())) (by
     rintro x ⟨rfl, g⟩
     refine ⟨_, ?_, rfl⟩; simp only [iQ, mq, ai (show ¬ ((60 + 1 : Nat) : Int) ≤ (60 : Int) by omega), cond_false]; unfold iM; rw [List.take_of_length_le g]) (by
     rintro k x hk ⟨rfl, g⟩
     have hle : ((k + 1 : Nat) : Int) ≤ (60 : Int) := by omega
     have hl := bJ ((ints k).filter (fC list xs ms))
     by_cases QI : ((List.length (aN ((ints k).filter (fC list xs ms))) : Nat) : Int) < 20
     case neg =>
       refine .inl ⟨_, ?_, rfl⟩; simp only [iQ, mq, ah hle, ai QI, cond_true, cond_false]; have : iM list xs ms = (ints k).filter (fC list xs ms) := by
         unfold iM; obtain ⟨r, hr⟩ := BF k (60 - k); rw [show k + (60 - k) = 60 by omega] at hr; rw [hr, List.filter_append]; exact List.take_left' (by omega)
       rw [this]
     have Db : (ints (k + 1)).filter (fC list xs ms) = (ints k).filter (fC list xs ms) ++ (if fC list xs ms ((k + 1 : Nat) : Int) then [((k + 1 : Nat) : Int)] else []) := by
       rw [Da, List.filter_append]; rw [List.filter_cons, List.filter_nil]
     have acR := Eb ((k + 1 : Nat) : Int) xs hx; have XL := Eb ((k + 1 : Nat) : Int) (aN ms) Oo; rw [my] at XL; have hb : Nat.ble (((aN ((ints k).filter (fC list xs ms))).length + 1) * 8) lim = true := aH (by unfold lim; omega); have hsw := aK (show k + 1 < 4611686018427387904 by omega); simp only [iQ, mq, ah hle, ah QI, cond_true, mT list _ h, Option.bind_some, uB, acR, XL, hb, hsw]; have yes : fC list xs ms ((k + 1 : Nat) : Int) = true → ∃ x' : QJ, x' = (list, t0, t1, t2, t3, t4, xs, (0 : Int), (0 : Int), (0 : Int), (0 : Int), (0 : Int), [], t0, t1, t2, t3, t4, aN ((ints k).filter (fC list xs ms)) ++ [(((k + 1 : Nat) : Int), ())], aN ms, ((k + 1 + 1 : Nat) : Int), ()) ∧
         (x' = (list, t0, t1, t2, t3, t4, xs, (0 : Int), (0 : Int), (0 : Int), (0 : Int), (0 : Int), [], t0, t1, t2, t3, t4, aN ((ints (k + 1)).filter (fC list xs ms)), aN ms, ((k + 1 + 1 : Nat) : Int), ()) ∧ ((ints (k + 1)).filter (fC list xs ms)).length ≤ 20) := by
       intro hp; refine ⟨_, rfl, ?_, ?_⟩
       · rw [Db, hp, if_pos rfl, Ib]; rfl
       · rw [Db, hp, if_pos rfl, List.length_append]; simp; omega
     have no : fC list xs ms ((k + 1 : Nat) : Int) = false → ∃ x' : QJ, x' = (list, t0, t1, t2, t3, t4, xs, (0 : Int), (0 : Int), (0 : Int), (0 : Int), (0 : Int), [], t0, t1, t2, t3, t4, aN ((ints k).filter (fC list xs ms)), aN ms, ((k + 1 + 1 : Nat) : Int), ()) ∧
         (x' = (list, t0, t1, t2, t3, t4, xs, (0 : Int), (0 : Int), (0 : Int), (0 : Int), (0 : Int), [], t0, t1, t2, t3, t4, aN ((ints (k + 1)).filter (fC list xs ms)), aN ms, ((k + 1 + 1 : Nat) : Int), ()) ∧ ((ints (k + 1)).filter (fC list xs ms)).length ≤ 20) := by
       intro hp; refine ⟨_, rfl, ?_, ?_⟩
       · rw [Db, hp]; simp
       · rw [Db, hp]; simp; omega
     have Ee : fC list xs ms ((k + 1 : Nat) : Int) = ((!(cE list ((k + 1 : Nat) : Int)).isSome && decide (((k + 1 : Nat) : Int) ∈ aZ xs)) || decide (((k + 1 : Nat) : Int) ∈ ms)) := rfl
     cases c1 : (cE list ((k + 1 : Nat) : Int)).isSome
     · cases c2 : decide (((k + 1 : Nat) : Int) ∈ aZ xs)
       · cases c3 : decide (((k + 1 : Nat) : Int) ∈ ms)
         · obtain ⟨x', g1, g2⟩ := no (by rw [Ee, c1, c2, c3]; rfl); exact .inr ⟨x', by rw [g1]; rfl, g2⟩
         · obtain ⟨x', g1, g2⟩ := yes (by rw [Ee, c1, c2, c3]; rfl); exact .inr ⟨x', by rw [g1]; rfl, g2⟩
       · obtain ⟨x', g1, g2⟩ := yes (by rw [Ee, c1, c2]; rfl); exact .inr ⟨x', by rw [g1]; rfl, g2⟩
     · cases c3 : decide (((k + 1 : Nat) : Int) ∈ ms)
       · obtain ⟨x', g1, g2⟩ := no (by rw [Ee, c1, c3]; rfl); exact .inr ⟨x', by rw [g1]; rfl, g2⟩
       · obtain ⟨x', g1, g2⟩ := yes (by rw [Ee, c1, c3]; rfl); exact .inr ⟨x', by rw [g1]; rfl, g2⟩) ⟨rfl, by simp [ints]⟩
 unfold bT; rw [hm]; simp only [Option.bind_some]; rw [show (1 : Int) = ((0 + 1 : Nat) : Int) from rfl, he]; rfl
def nU (list : aI) (s : Int) : Bool := !hasB list s && (decide (1 ≤ s) && decide (s ≤ 60))
theorem Ie (t0 t1 t2 t3 t4 : Int) (xs : List (Int × Unit)) (list : aI) (ms : List Int) (h : list.length ≤ 1048576) (hx : xs.length ≤ 1048576) (hm : lC list t2 = some (aN ms, ())) (Yw : ms.length ≤ 20) (hmp : ∀ s ∈ ms, 1 ≤ s ∧ s ≤ 60 ∧ hasB list s = false) :
   py t0 t1 t2 t3 t4 xs list = some (t0, t1, t2, t3, t4, aN (iM list xs ms), ()) := by
 have I3 := ek (round := iR) (e := .inl ((0 : Int), (0 : Int), (0 : Int), (0 : Int), (0 : Int), [], t0, t1, t2, t3, t4, xs, aN (ms ++ (aZ xs).filter (nU list)), ())) xs.length
   (fun k => (list, (0 : Int), (0 : Int), (0 : Int), (0 : Int), (0 : Int), [], t0, t1, t2, t3, t4, xs, aN (ms ++ (aZ (xs.take k)).filter (nU list)), xs, ((List.length xs : Nat) : Int), ((k : Nat) : Int), ())) (by
     simp only [iR, qy, aF, cond_false, List.take_length]) (fun k hk => by
     have hfl : ((aZ (xs.take k)).filter (nU list)).length ≤ 1048576 := by
       have h1 := List.length_filter_le (nU list) (aZ (xs.take k)); have h2 := gw (xs.take k); rw [List.length_take] at h2; omega
     have hl := bJ (ms ++ (aZ (xs.take k)).filter (nU list)); rw [List.length_append] at hl; have Db : (aZ (xs.take (k + 1))).filter (nU list) = (aZ (xs.take k)).filter (nU list) ++ (if nU list xs[k].1 then [xs[k].1] else []) := by
       rw [List.take_succ_eq_append_getElem hk]; unfold aZ; rw [List.map_append, List.filter_append, List.map_cons, List.map_nil, List.filter_cons, List.filter_nil]
     have Ee : nU list xs[k].1 = (!(cE list xs[k].1).isSome && (decide (1 ≤ xs[k].1) && decide (xs[k].1 ≤ 60))) := rfl; simp only [iR, qy, az hk, aq, cond_true, aA, List.getElem?_eq_getElem hk, Option.bind_some, qe list _ h, uB, sG, aH (show ((aN (ms ++ (aZ (xs.take k)).filter (nU list))).length + 1) * 8 ≤ lim by unfold lim; omega), aK (show k < 4611686018427387904 by omega), Db]
     cases c1 : (cE list xs[k].1).isSome
     · cases c2 : (decide (1 ≤ xs[k].1) && decide (xs[k].1 ≤ 60))
       · rw [Ee, c1, c2]; simp
       · rw [Ee, c1, c2]; simp [aN]
     · rw [Ee, c1]; simp)
 have I3 : aE iR (list, (0 : Int), (0 : Int), (0 : Int), (0 : Int), (0 : Int), [], t0, t1, t2, t3, t4, xs, aN (ms ++ (aZ (xs.take 0)).filter (nU list)), xs, ((List.length xs : Nat) : Int), (0 : Int), ()) = _ := I3; rw [show ms ++ (aZ (xs.take 0)).filter (nU list) = ms by simp [aZ]] at I3; have c2 : cC t0 t1 t2 t3 t4 xs = some (t0, t1, t2, t3, t4, xs, ()) := by
   unfold cC; rw [q7 xs hx]; rfl
 have hwl : (ms ++ (aZ xs).filter (nU list)).length ≤ 1048576 + 20 := by
   rw [List.length_append]; have h1 := List.length_filter_le (nU list) (aZ xs); have h2 := gw xs; omega
 generalize hW : ms ++ (aZ xs).filter (nU list) = W at *; have XM : Be (aN W) = some (aN (W.mergeSort fun x y => decide (x ≤ y)), ()) := by
   unfold Be; rw [aH (show (aN W).length ≤ lim by rw [bJ]; unfold lim; omega), my]; rfl
 have QK : ll (aN (W.mergeSort fun x y => decide (x ≤ y))) = some (aN (Lib.compact (W.mergeSort fun x y => decide (x ≤ y))), ()) := by
   unfold ll; rw [aH (show (aN (W.mergeSort fun x y => decide (x ≤ y))).length ≤ lim by rw [bJ, List.length_mergeSort]; unfold lim; omega), my]; rfl
 have hC : Lib.compact (W.mergeSort fun x y => decide (x ≤ y)) = (ints 60).filter (fC list xs ms) := by
   refine BD _ _ (BE _ (Pn W)) ((zx 60).filter _) fun z => ?_
   rw [F9, NL, ← hW, List.mem_append, List.mem_filter, List.mem_filter, NM]; unfold nU fC; simp only [Bool.and_eq_true, Bool.or_eq_true, decide_eq_true_eq, Bool.not_eq_true']
   constructor
   · rintro (h1 | ⟨h1, h2, h3, h4⟩)
     · exact ⟨⟨(hmp z h1).1, (hmp z h1).2.1⟩, .inr h1⟩
     · exact ⟨⟨h3, h4⟩, .inl ⟨h2, h1⟩⟩
   · rintro ⟨⟨h3, h4⟩, ⟨h2, h1⟩ | h1⟩
     · exact .inr ⟨h1, h2, h3, h4⟩
     · exact .inl h1
 rw [hC] at QK; have hCl : ((ints 60).filter (fC list xs ms)).length ≤ 60 := Nat.le_trans (List.length_filter_le _ _) (by simp [ints]); have acS : (if (20 : Int) < ((List.length (aN ((ints 60).filter (fC list xs ms))) : Nat) : Int) then (20 : Int) else ((List.length (aN ((ints 60).filter (fC list xs ms))) : Nat) : Int)) = ((min 20 ((ints 60).filter (fC list xs ms)).length : Nat) : Int) := by
   rw [bJ]
   split <;> omega
 have XN : List.take (min 20 ((ints 60).filter (fC list xs ms)).length) (aN ((ints 60).filter (fC list xs ms))) = aN (iM list xs ms) := by
   unfold iM; rw [Ga]
   by_cases QI : 20 ≤ ((ints 60).filter (fC list xs ms)).length
   · rw [Nat.min_eq_left QI]
   · rw [Nat.min_eq_right (by omega), List.take_of_length_le (by rw [bJ]; omega), List.take_of_length_le (by rw [bJ]; omega)]
 have oO := q7 (aN (iM list xs ms)) (by rw [bJ]; unfold iM; rw [List.length_take]; omega); unfold py; rw [c2, hm]; simp only [Option.bind_some]; rw [I3]; simp only [iz, XM, QK, Option.bind_some, acS, aq, cond_true, aA, List.drop_zero, XN, oO, ah (show ((min 20 ((ints 60).filter (fC list xs ms)).length : Nat) : Int) ≤ ((List.length (aN ((ints 60).filter (fC list xs ms))) : Nat) : Int) by rw [bJ]; omega)]
theorem I4 {xs : aI} {s : Int} : hasB xs s = true ↔ ∃ r ∈ xs, r.1 = s := by
 unfold hasB cE; rw [List.find?_isSome]; simp only [decide_eq_true_eq]
theorem yB {r m : db} : {xs : aI} → r ∈ xs → r ∈ iX xs m
 | [], h => by cases h
 | x :: xs, h => by
   unfold iX
   split
   · rcases List.mem_cons.1 h with rfl | h
     · exact List.mem_cons_self
     · exact List.mem_cons_of_mem _ (yB h)
   · split
     · exact h
     · exact List.mem_cons_of_mem _ h
theorem Gb {xs ys : aI} (hx : xs.length ≤ 1048576) (hy : ys.length ≤ 1048576) (h : ∀ r ∈ xs, ∃ q ∈ ys, q.1 = r.1) : cS xs ≤ cS ys := by
 obtain ⟨_, a1, _⟩ := (wO xs hx).2.2; obtain ⟨_, _, b2⟩ := (wO ys hy).2.2
 by_cases bQ : cS ys < cS xs
 · have h1 := a1 _ bQ; obtain ⟨r, hr, e⟩ := I4.1 h1; obtain ⟨q, hq, e2⟩ := h r hr; have : hasB ys ((cS ys + 1 : Nat) : Int) = true := I4.2 ⟨q, hq, e2.trans e⟩; unfold hasB at this; rw [b2] at this
   cases this
 · omega
def bc (xs : aI) (fs : aI) : aI := fs.foldl iX xs
theorem ou : (fs : aI) → {xs : aI} → gH xs xs.length → (∀ f ∈ fs, kc f) → gH (bc xs fs) (bc xs fs).length
 | [], _, h, _ => h
 | f :: fs, _, h, hf => ou fs (BB h (hf f List.mem_cons_self)) fun g hg => hf g (List.mem_cons_of_mem _ hg)
theorem uC {r : db} : (fs : aI) → {xs : aI} → r ∈ xs → r ∈ bc xs fs
 | [], _, h => h
 | _ :: fs, _, h => uC fs (yB h)
theorem BG {r : db} : (fs : aI) → {xs : aI} → r ∈ bc xs fs → r ∈ fs ∨ r ∈ xs
 | [], _, h => .inr h
 | f :: fs, xs, h => by
   rcases BG fs h with h | h
   · exact .inl (List.mem_cons_of_mem _ h)
   · rcases uA h with rfl | h
     · exact .inl List.mem_cons_self
     · exact .inr h
theorem Dc : (fs : aI) → (xs : aI) → xs.length ≤ (bc xs fs).length
 | [], _ => Nat.le_refl _
 | f :: fs, xs => by
   have h1 := Dc fs (iX xs f); have h2 : xs.length ≤ (iX xs f).length := by
     have key : (ys : aI) → ys.length ≤ (iX ys f).length := by
       intro ys
       induction ys with
       | nil => exact Nat.zero_le _
       | cons y ys ih =>
         unfold iX
         split
         · simp; exact ih
         · split
           · exact Nat.le_refl _
           · simp
     exact key xs
   exact Nat.le_trans h2 h1
theorem Ig {c2 d : Int} {lv : dn} {tx : List (ByteArray × Unit)} {k j : Nat} (hc : 0 ≤ c2 ∧ c2 + ((k : Nat) : Int) ≤ 60) (hd : 1 ≤ d ∧ d ≤ 5) (hk : k ≤ tx.length) (hs : gO tx tx.length) (hj : j < k) : kc (uV c2 d lv tx j) := by
 have h1 : j < tx.length := by omega
 have hgt : (tx.getD j (ByteArray.empty, ())).1 = tx[j].1 := by rw [List.getD_eq_getElem?_getD, List.getElem?_eq_getElem h1, Option.getD_some]
 refine ⟨⟨?_, ?_⟩, hd, ?_, ?_⟩
 · show 1 ≤ c2 + ((j + 1 : Nat) : Int); omega
 · show c2 + ((j + 1 : Nat) : Int) ≤ 60; omega
 · show 1 ≤ (bif decide (j < lv.length) && decide ((lv.getD j ((0 : Int), ())).1 = 2) then (2 : Int) else 1) ∧ (bif decide (j < lv.length) && decide ((lv.getD j ((0 : Int), ())).1 = 2) then (2 : Int) else 1) ≤ 2
   cases decide (j < lv.length) && decide ((lv.getD j ((0 : Int), ())).1 = 2) <;> decide
 · show ByteArray.size (tx.getD j (ByteArray.empty, ())).1 ≤ 60; rw [hgt]; exact hs j h1 h1
theorem zy {c2 d : Int} {lv : dn} {tx : List (ByteArray × Unit)} {k : Nat} (hc : 0 ≤ c2 ∧ c2 + ((k : Nat) : Int) ≤ 60) (hd : 1 ≤ d ∧ d ≤ 5) (hk : k ≤ tx.length) (hs : gO tx tx.length) : ∀ f ∈ cP c2 d lv tx k, kc f := by
 intro f hf; unfold cP at hf; obtain ⟨j, hj, rfl⟩ := List.mem_map.1 hf; exact Ig hc hd hk hs (List.mem_range.1 hj)
def q9 (t : jU) (xs : aI) : aI := xs.filter fun r => decide (r.1 ∈ aZ t.2.2.2.2.2.1)
theorem NN (t : jU) (xs : aI) (h : xs.length ≤ 1048576) (hw : t.2.2.2.2.2.1.length ≤ 1048576) : qT t.1 t.2.1 t.2.2.1 t.2.2.2.1 t.2.2.2.2.1 t.2.2.2.2.2.1 xs = some (q9 t xs, ()) ∧ qX t.1 t.2.1 t.2.2.1 t.2.2.2.1 t.2.2.2.2.1 t.2.2.2.2.2.1 xs = some (q9 t xs, ()) := by
 have hlen : ∀ k, ((xs.take k).filter fun r => decide (r.1 ∈ aZ t.2.2.2.2.2.1)).length ≤ k := fun k => Nat.le_trans (List.length_filter_le _ _) (List.length_take_le _ _)
 constructor
 · have hl := ek (round := jJ) (e := .inl (q9 t xs, ())) xs.length (fun k => (xs, t.1, t.2.1, t.2.2.1, t.2.2.2.1, t.2.2.2.2.1, t.2.2.2.2.2.1, (xs.take k).filter (fun r => decide (r.1 ∈ aZ t.2.2.2.2.2.1)), ((k : Nat) : Int), ())) (by
     simp only [jJ, rZ, aF, cond_false, List.take_length, q9]) (fun k hk => by
     have rb := hlen k; simp only [jJ, rZ, az hk, aq, cond_true, aA, List.getElem?_eq_getElem hk, Option.bind_some, Eb _ _ hw, aH (show (((xs.take k).filter fun r => decide (r.1 ∈ aZ t.2.2.2.2.2.1)).length + 1) * 40 ≤ lim by unfold lim; omega), aK (show k < 4611686018427387904 by omega)]; rw [List.take_succ_eq_append_getElem hk, List.filter_append]
     cases hp : decide (xs[k].1 ∈ aZ t.2.2.2.2.2.1)
     · rw [List.filter_cons_of_neg (by rw [hp]; simp)]; simp
     · rw [List.filter_cons_of_pos (by rw [hp])]; rfl)
   have hl : aE jJ (xs, t.1, t.2.1, t.2.2.1, t.2.2.2.1, t.2.2.2.2.1, t.2.2.2.2.2.1, [], (0 : Int), ()) = _ := hl; unfold qT; rw [hl]; rfl
 · have hl := ek (round := jM) (e := .inl (q9 t xs, ())) xs.length (fun k => (t.1, t.2.1, t.2.2.1, t.2.2.2.1, t.2.2.2.2.1, t.2.2.2.2.2.1, (xs.take k).filter (fun r => decide (r.1 ∈ aZ t.2.2.2.2.2.1)), xs, ((List.length xs : Nat) : Int), ((k : Nat) : Int), ())) (by
     simp only [jM, ss, aF, cond_false, List.take_length, q9]) (fun k hk => by
     have rb := hlen k; simp only [jM, ss, az hk, aq, cond_true, aA, List.getElem?_eq_getElem hk, Option.bind_some, Ec _ _ hw, aH (show (((xs.take k).filter fun r => decide (r.1 ∈ aZ t.2.2.2.2.2.1)).length + 1) * 40 ≤ lim by unfold lim; omega), aK (show k < 4611686018427387904 by omega)]; rw [List.take_succ_eq_append_getElem hk, List.filter_append]
     cases hp : decide (xs[k].1 ∈ aZ t.2.2.2.2.2.1)
     · rw [List.filter_cons_of_neg (by rw [hp]; simp)]; simp
     · rw [List.filter_cons_of_pos (by rw [hp])]; rfl)
   have hl : aE jM (t.1, t.2.1, t.2.2.1, t.2.2.2.1, t.2.2.2.2.1, t.2.2.2.2.2.1, [], xs, ((List.length xs : Nat) : Int), (0 : Int), ()) = _ := hl; unfold qX; rw [hl]; rfl
theorem BH {t : jU} {xs : aI} {r : db} (h : r ∈ q9 t xs) : r ∈ xs := (List.mem_filter.1 h).1
theorem BI (t : jU) (xs : aI) : (q9 t xs).length ≤ xs.length := List.length_filter_le _ _
end Go.TM
