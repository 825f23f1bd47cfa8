/- Sizes, copies, sameness: what the laws' own helping functions answer. -/
import Derived.Test.YtiljcjnnhkidbaaDF2
namespace Go.TM
open Go
def D8 (_ : Int × Unit) : Nat := 0
def nO (x : m8) : Nat := ByteArray.size x.2.2.2.1
def Tu (x : ByteArray × Unit) : Nat := ByteArray.size x.1
theorem mT (a b c : Int) : bl a b c = some (decide (b ≤ a) && decide (a ≤ c), ()) := by
 unfold bl
 cases decide (b ≤ a) <;> rfl
theorem sF (a b c : Int) : bw a b c = some (decide (b ≤ a) && decide (a ≤ c), ()) := by
 unfold bw
 cases decide (b ≤ a) <;> rfl
theorem oG (a : Int) : gD a = some (decide (1 ≤ a) && decide (a ≤ 5), ()) := by
 unfold gD; rw [sF]; rfl
def zK {A B : Type} : Sum A (Bool × Unit) → Sum B (Bool × Unit) → Prop
 | .inl _, .inl _ => True
 | .inr a, .inr b => a.1 = b.1
 | _, _ => False
theorem oH {k : Nat} (h0 : 0 < k) (h : k < 4611686018427387904) : IntKind.i64.wrap (((k : Nat) : Int) - (1 : Int)) = (((k - 1 : Nat)) : Int) := by
 rw [eB] <;> omega
theorem JO (c : Int) (xs : List (Int × Unit)) (h : xs.length ≤ 1048576) :
   ∃ e f, aE dM (c, xs, (0 : Int), ()) = some e ∧ aE jr (c, xs, xs, ((List.length xs : Nat) : Int), (0 : Int), ()) = some f ∧ zK e f := by
 refine mE xs.length (fun k x y => x = (c, xs, ((k : Nat) : Int), ()) ∧ y = (c, xs, xs, ((List.length xs : Nat) : Int), ((k : Nat) : Int), ())) zK ?_ ⟨rfl, rfl⟩
 rintro k x y hk ⟨rfl, rfl⟩
 by_cases bP : k < xs.length
 · simp only [dM, jm, jr, px, az bP, aq, cond_true, aC, List.getElem?_eq_getElem bP, Option.bind_some, mT, oG, aJ (show k < 4611686018427387904 by omega)]
   cases (decide (1 ≤ xs[k].1) && decide (xs[k].1 ≤ 5))
   · exact .inl ⟨.inr (false, ()), .inr (false, ()), rfl, rfl, rfl⟩
   · by_cases h0 : 0 < k
     · have hp : k - 1 < xs.length := by omega
       rw [oH h0 (by omega)]; simp only [ah (show (0 : Int) < ((k : Nat) : Int) by omega), Bool.not_true, cond_false, cond_true, aq, aC, List.getElem?_eq_getElem hp, Option.bind_some]
       cases decide (xs[k].1 ≤ xs[k - 1].1)
       · exact .inr ⟨bP, _, _, rfl, rfl, rfl, rfl⟩
       · exact .inl ⟨.inr (false, ()), .inr (false, ()), rfl, rfl, rfl⟩
     · have : k = 0 := by omega
       subst this; simp only [ai (show ¬ (0 : Int) < ((0 : Nat) : Int) by omega), Bool.not_true, cond_false]; exact .inr ⟨bP, _, _, rfl, rfl, rfl, rfl⟩
 · have : k = xs.length := by omega
   subst this; exact .inl ⟨.inl (), .inl (), by simp only [dM, jm, aF, cond_false], by simp only [jr, px, aF, cond_false], trivial⟩
theorem CS (c : Int) (xs : List (Int × Unit)) (h : xs.length ≤ 1048576) : ∃ b, b8 c xs = some (b, ()) ∧ kL c xs = some (b, ()) ∧ (b = true → 1 ≤ xs.length ∧ xs.length ≤ 5) := by
 obtain ⟨e, f, h1, h2, h3⟩ := JO c xs h; unfold b8 kL; simp only [mT, sF, Option.bind_some, h1, h2]
 cases (decide (1 ≤ c) && decide (c ≤ 9))
 · exact ⟨false, rfl, rfl, fun h => by cases h⟩
 cases hb : (decide (1 ≤ ((List.length xs : Nat) : Int)) && decide (((List.length xs : Nat) : Int) ≤ 5))
 · exact ⟨false, rfl, rfl, fun h => by cases h⟩
 have hl : 1 ≤ xs.length ∧ xs.length ≤ 5 := by
   rw [Bool.and_eq_true, decide_eq_true_eq, decide_eq_true_eq] at hb; omega
 cases e with
 | inl e => cases f with
   | inl f => exact ⟨true, rfl, rfl, fun _ => hl⟩
   | inr f => exact h3.elim
 | inr e => cases f with
   | inl f => exact h3.elim
   | inr f => exact ⟨e.1, rfl, by rw [show e.1 = f.1 from h3]; rfl, fun _ => hl⟩
def PW (e : Sum Unit (Bool × Unit)) (f : Sum Unit (Int × Unit)) : Prop := ∃ b, (e = .inl () ∧ f = .inl () ∧ b = false) ∨ (e = .inr (true, ()) ∧ (∃ k : Nat, f = .inr (((k : Nat) : Int), ())) ∧ b = true)
theorem Ow (d : Int) (xs : List (Int × Unit)) (h : xs.length ≤ 1048576) :
   ∃ e f, aE bY (xs, d, (0 : Int), ()) = some e ∧ aE fj (xs, d, ((List.length xs : Nat) : Int), (0 : Int), ()) = some f ∧ PW e f := by
 refine mE xs.length (fun k x y => x = (xs, d, ((k : Nat) : Int), ()) ∧ y = (xs, d, ((List.length xs : Nat) : Int), ((k : Nat) : Int), ())) PW ?_ ⟨rfl, rfl⟩
 rintro k x y hk ⟨rfl, rfl⟩
 by_cases bP : k < xs.length
 · simp only [bY, gz, fj, jN, az bP, aq, cond_true, aC, List.getElem?_eq_getElem bP, Option.bind_some, aJ (show k < 4611686018427387904 by omega)]
   by_cases hd : xs[k].1 = d
   · rw [ah hd, ah hd.symm]; exact .inl ⟨.inr (true, ()), .inr (((k : Nat) : Int), ()), rfl, rfl, true, .inr ⟨rfl, ⟨k, rfl⟩, rfl⟩⟩
   · rw [ai hd, ai (fun e => hd e.symm)]; exact .inr ⟨bP, _, _, rfl, rfl, rfl, rfl⟩
 · have : k = xs.length := by omega
   subst this; exact .inl ⟨.inl (), .inl (), by simp only [bY, gz, aF, cond_false], by simp only [fj, jN, aF, cond_false], false, .inl ⟨rfl, rfl, rfl⟩⟩
theorem vz (d : Int) (xs : List (Int × Unit)) (h : xs.length ≤ 1048576) : ∃ b, dk xs d = some (b, ()) ∧ dU xs d = some (b, ()) := by
 obtain ⟨e, f, h1, h2, b, h3⟩ := Ow d xs h; unfold dk dU mc; rw [h1, h2]; rcases h3 with ⟨rfl, rfl, rfl⟩ | ⟨rfl, ⟨k, rfl⟩, rfl⟩
 · exact ⟨false, rfl, rfl⟩
 · refine ⟨true, rfl, ?_⟩; simp only [cj, Option.bind_some, aq]
def MR (t : Int × Int × Int × Int × Int × (List (Int × Unit)) × Unit) : Sum Unit (Bool × Unit) → Sum (Int × Int × Int × Int × Int × (List (Int × Unit)) × Unit) (Bool × Unit) → Prop
 | .inl _, .inl z => z = t
 | .inr a, .inr b => a.1 = false ∧ b.1 = false
 | _, _ => False
theorem HE (c0 c1 c2 c3 c4 : Int) (xs : List (Int × Unit)) (h : xs.length ≤ 1048576) :
   ∃ e f, aE dg (c0, c1, c2, c3, c4, xs, (0 : Int), ()) = some e ∧ aE iG (c0, c1, c2, c3, c4, xs, xs, ((List.length xs : Nat) : Int), (0 : Int), ()) = some f ∧ MR (c0, c1, c2, c3, c4, xs, ()) e f := by
 refine mE xs.length (fun k x y => x = (c0, c1, c2, c3, c4, xs, ((k : Nat) : Int), ()) ∧ y = (c0, c1, c2, c3, c4, xs, xs, ((List.length xs : Nat) : Int), ((k : Nat) : Int), ())) (MR (c0, c1, c2, c3, c4, xs, ())) ?_ ⟨rfl, rfl⟩
 rintro k x y hk ⟨rfl, rfl⟩
 by_cases bP : k < xs.length
 · simp only [dg, iB, iG, nL, az bP, aq, cond_true, aC, List.getElem?_eq_getElem bP, Option.bind_some, mT, sF, aJ (show k < 4611686018427387904 by omega)]
   cases (decide (1 ≤ xs[k].1) && decide (xs[k].1 ≤ c2))
   · exact .inl ⟨.inr (false, ()), .inr (false, ()), rfl, rfl, rfl, rfl⟩
   · by_cases h0 : 0 < k
     · have hp : k - 1 < xs.length := by omega
       rw [oH h0 (by omega)]; simp only [ah (show (0 : Int) < ((k : Nat) : Int) by omega), Bool.not_true, cond_false, cond_true, aq, aC, List.getElem?_eq_getElem hp, Option.bind_some]
       cases decide (xs[k].1 ≤ xs[k - 1].1)
       · exact .inr ⟨bP, _, _, rfl, rfl, rfl, rfl⟩
       · exact .inl ⟨.inr (false, ()), .inr (false, ()), rfl, rfl, rfl, rfl⟩
     · have : k = 0 := by omega
       subst this; simp only [ai (show ¬ (0 : Int) < ((0 : Nat) : Int) by omega), Bool.not_true, cond_false]; exact .inr ⟨bP, _, _, rfl, rfl, rfl, rfl⟩
 · have : k = xs.length := by omega
   subst this; exact .inl ⟨.inl (), .inl (c0, c1, c2, c3, c4, xs, ()), by simp only [dg, iB, aF, cond_false], by simp only [iG, nL, aF, cond_false], rfl⟩
theorem sG (c0 c1 c2 c3 c4 : Int) (xs : List (Int × Unit)) (h : xs.length ≤ 1048576) : ∃ b, cf c0 c1 c2 c3 c4 xs = some (b, ()) ∧ eE c0 c1 c2 c3 c4 xs = some (b, ()) ∧ (b = true → 0 ≤ c2 ∧ c2 ≤ 60 ∧ 0 ≤ c3 ∧ c3 ≤ c2 ∧ xs.length ≤ 20 ∧ (∀ y ∈ [c0, c1], 1 ≤ y)) := by
 obtain ⟨e, f, h1, h2, h3⟩ := HE c0 c1 c2 c3 c4 xs h; unfold cf eE; simp only [mT, sF, Option.bind_some, h1, h2]
 cases q0 : (decide (1 ≤ c0) && decide (c0 ≤ 9))
 · exact ⟨false, rfl, rfl, fun h => by cases h⟩
 cases q1 : (decide (1 ≤ c1) && decide (c1 ≤ 1000000000))
 · exact ⟨false, rfl, rfl, fun h => by cases h⟩
 cases q2 : (decide (0 ≤ c2) && decide (c2 ≤ 60))
 · exact ⟨false, rfl, rfl, fun h => by cases h⟩
 cases e with
 | inl e => cases f with
   | inl f =>
     have h3 : f = (c0, c1, c2, c3, c4, xs, ()) := h3; subst h3; simp only [cj, Option.bind_some, sF, Bool.not_true, cond_false]
     cases q3 : (decide (0 ≤ c3) && decide (c3 ≤ c2))
     · exact ⟨false, rfl, rfl, fun h => by cases h⟩
     cases (decide (0 ≤ c4) && decide (c4 ≤ 5))
     · exact ⟨false, rfl, rfl, fun h => by cases h⟩
     by_cases hl : ((List.length xs : Nat) : Int) ≤ 20
     · rw [ah hl, ai (show ¬ (20 : Int) < ((List.length xs : Nat) : Int) by omega)]; refine ⟨true, rfl, rfl, fun _ => ?_⟩; rw [Bool.and_eq_true, decide_eq_true_eq, decide_eq_true_eq] at q0 q1 q2 q3; refine ⟨q2.1, q2.2, q3.1, q3.2, by omega, fun y hy => ?_⟩; rcases List.mem_cons.1 hy with rfl | hy
       · exact q0.1
       · rcases List.mem_cons.1 hy with rfl | hy
         · exact q1.1
         · cases hy
     · rw [ai hl, ah (show (20 : Int) < ((List.length xs : Nat) : Int) by omega)]; exact ⟨false, rfl, rfl, fun h => by cases h⟩
   | inr f => exact h3.elim
 | inr e => cases f with
   | inl f => exact h3.elim
   | inr f =>
     obtain ⟨e1, e2⟩ := (show e.1 = false ∧ f.1 = false from h3); refine ⟨false, ?_, by rw [← e2]; rfl, fun h => by cases h⟩
     cases (decide (0 ≤ c3) && decide (c3 ≤ c2))
     · rfl
     cases (decide (0 ≤ c4) && decide (c4 ≤ 5))
     · rfl
     cases decide ((20 : Int) < ((List.length xs : Nat) : Int))
     · show some (e.1, ()) = some (false, ()); rw [e1]
     · rfl
theorem q8 (xs : List (Int × Unit)) (h : xs.length ≤ 1048576) : ew xs = some (xs, ()) := by
 unfold ew; rw [aH (show (0 + xs.length) * 8 ≤ lim by unfold lim; omega)]; rfl
theorem il (c0 c1 c2 c3 c4 : Int) (xs : List (Int × Unit)) (h : xs.length ≤ 1048576) : aw c0 c1 c2 c3 c4 xs = some (c0, c1, c2, c3, c4, xs, ()) ∧ cw c0 c1 c2 c3 c4 xs = some (c0, c1, c2, c3, c4, xs, ()) := by
 constructor
 · unfold aw; rw [aH (show (0 + xs.length) * 8 ≤ lim by unfold lim; omega)]; rfl
 · unfold cw; rw [q8 xs h]; rfl
def sH (c2 : Int) (xs : List (Int × Unit)) (n : Nat) : Prop := ∀ k (h : k < xs.length), k < n → 1 ≤ xs[k].1 ∧ xs[k].1 ≤ c2 ∧ ∀ h0 : 0 < k, xs[k - 1].1 < xs[k].1
def Sy (c0 c1 c2 c3 c4 : Int) (xs : List (Int × Unit)) : Prop := (1 ≤ c0 ∧ c0 ≤ 9) ∧ (1 ≤ c1 ∧ c1 ≤ 1000000000) ∧ (0 ≤ c2 ∧ c2 ≤ 60) ∧ (0 ≤ c3 ∧ c3 ≤ c2) ∧ (0 ≤ c4 ∧ c4 ≤ 5) ∧ xs.length ≤ 20 ∧ sH c2 xs xs.length
theorem CT (c0 c1 c2 c3 c4 : Int) (xs : List (Int × Unit)) (h : xs.length ≤ 1048576) : ∃ b, cf c0 c1 c2 c3 c4 xs = some (b, ()) ∧ eE c0 c1 c2 c3 c4 xs = some (b, ()) ∧ (b = true ↔ Sy c0 c1 c2 c3 c4 xs) := by
 obtain ⟨b, h1, h2, _⟩ := sG c0 c1 c2 c3 c4 xs h; refine ⟨b, h1, h2, ?_⟩; obtain ⟨e, he, hq⟩ := eg (round := dg) (x := (c0, c1, c2, c3, c4, xs, ((0 : Nat) : Int), ())) xs.length (fun k x => x = (c0, c1, c2, c3, c4, xs, ((k : Nat) : Int), ()) ∧ sH c2 xs k)
   (fun e => (e = .inl () ∧ sH c2 xs xs.length) ∨ (e = .inr (false, ()) ∧ ¬ sH c2 xs xs.length)) (by
     rintro x ⟨rfl, g⟩
     exact ⟨.inl (), by simp only [dg, iB, aF, cond_false], .inl ⟨rfl, g⟩⟩) (by
     rintro k x bP ⟨rfl, g⟩
     simp only [dg, iB, az bP, aq, cond_true, aC, List.getElem?_eq_getElem bP, Option.bind_some, mT, aJ (show k < 4611686018427387904 by omega)]; have more : 1 ≤ xs[k].1 → xs[k].1 ≤ c2 → (∀ h0 : 0 < k, xs[k - 1].1 < xs[k].1) → sH c2 xs (k + 1) := by
       intro w1 w2 w3 j hj F0
       by_cases e : j < k
       · exact g j hj e
       · have : j = k := by omega
         subst this; exact ⟨w1, w2, w3⟩
     cases Ae : (decide (1 ≤ xs[k].1) && decide (xs[k].1 ≤ c2))
     · refine .inl ⟨.inr (false, ()), rfl, .inr ⟨rfl, fun hn => ?_⟩⟩; obtain ⟨w1, w2, _⟩ := hn k bP bP; rw [ah w1, ah w2] at Ae
       cases Ae
     · rw [Bool.and_eq_true, decide_eq_true_eq, decide_eq_true_eq] at Ae
       by_cases h0 : 0 < k
       · have hp : k - 1 < xs.length := by omega
         rw [oH h0 (by omega)]; simp only [ah (show (0 : Int) < ((k : Nat) : Int) by omega), Bool.not_true, cond_false, cond_true, aq, aC, List.getElem?_eq_getElem hp, Option.bind_some]
         by_cases hd : xs[k].1 ≤ xs[k - 1].1
         · rw [ah hd]; refine .inl ⟨.inr (false, ()), rfl, .inr ⟨rfl, fun hn => ?_⟩⟩; have := (hn k bP bP).2.2 h0; omega
         · rw [ai hd]; exact .inr ⟨_, rfl, rfl, more Ae.1 Ae.2 (fun _ => by omega)⟩
       · have : k = 0 := by omega
         subst this; simp only [ai (show ¬ (0 : Int) < ((0 : Nat) : Int) by omega), Bool.not_true, cond_false]; exact .inr ⟨_, rfl, rfl, more Ae.1 Ae.2 (fun h0 => absurd h0 (Nat.lt_irrefl 0))⟩) ⟨rfl, fun j _ h => by omega⟩
 have he : aE dg (c0, c1, c2, c3, c4, xs, (0 : Int), ()) = some e := he; unfold cf at h1; simp only [mT, Option.bind_some, he] at h1; have no : ∀ {p : Prop}, (some (false, ()) : Option (Bool × Unit)) = some (b, ()) → ¬ p → (b = true ↔ p) := by
   intro p e1 hp; injection e1 with e1; injection e1 with e1; subst e1; exact ⟨(fun h => by cases h), fun h => absurd h hp⟩
 have yes : ∀ {p : Prop}, (some (true, ()) : Option (Bool × Unit)) = some (b, ()) → p → (b = true ↔ p) := by
   intro p e1 hp; injection e1 with e1; injection e1 with e1; subst e1; exact ⟨fun _ => hp, fun _ => rfl⟩
 by_cases q0 : 1 ≤ c0 ∧ c0 ≤ 9
 case neg =>
   rw [show (decide (1 ≤ c0) && decide (c0 ≤ 9)) = false by rw [Bool.and_eq_false_iff, decide_eq_false_iff_not, decide_eq_false_iff_not]; omega] at h1; exact no h1 (fun h => q0 h.1)
 rw [ah q0.1, ah q0.2] at h1
 by_cases q1 : 1 ≤ c1 ∧ c1 ≤ 1000000000
 case neg =>
   rw [show (decide (1 ≤ c1) && decide (c1 ≤ 1000000000)) = false by rw [Bool.and_eq_false_iff, decide_eq_false_iff_not, decide_eq_false_iff_not]; omega] at h1; exact no h1 (fun h => q1 h.2.1)
 rw [ah q1.1, ah q1.2] at h1
 by_cases q2 : 0 ≤ c2 ∧ c2 ≤ 60
 case neg =>
   rw [show (decide (0 ≤ c2) && decide (c2 ≤ 60)) = false by rw [Bool.and_eq_false_iff, decide_eq_false_iff_not, decide_eq_false_iff_not]; omega] at h1; exact no h1 (fun h => q2 h.2.2.1)
 rw [ah q2.1, ah q2.2] at h1
 by_cases q3 : 0 ≤ c3 ∧ c3 ≤ c2
 case neg =>
   rw [show (decide (0 ≤ c3) && decide (c3 ≤ c2)) = false by rw [Bool.and_eq_false_iff, decide_eq_false_iff_not, decide_eq_false_iff_not]; omega] at h1; exact no h1 (fun h => q3 h.2.2.2.1)
 rw [ah q3.1, ah q3.2] at h1
 by_cases q4 : 0 ≤ c4 ∧ c4 ≤ 5
 case neg =>
   rw [show (decide (0 ≤ c4) && decide (c4 ≤ 5)) = false by rw [Bool.and_eq_false_iff, decide_eq_false_iff_not, decide_eq_false_iff_not]; omega] at h1; exact no h1 (fun h => q4 h.2.2.2.2.1)
 rw [ah q4.1, ah q4.2] at h1
 by_cases q5 : (20 : Int) < ((List.length xs : Nat) : Int)
 · rw [ah q5] at h1; exact no h1 (fun h => by have := h.2.2.2.2.2.1; omega)
 rw [ai q5] at h1; rcases hq with ⟨rfl, q⟩ | ⟨rfl, q⟩
 · exact yes h1 ⟨q0, q1, q2, q3, q4, by omega, q⟩
 · exact no h1 (fun h => q h.2.2.2.2.2.2)
theorem xM (a : Int) : jF a = some (decide (1 ≤ a) && decide (a ≤ 2), ()) := by
 unfold jF
 by_cases h1 : a = 1
 · subst h1; rfl
 by_cases h2 : a = 2
 · subst h2; rfl
 have e : (decide (1 ≤ a) && decide (a ≤ 2)) = false := by
   rw [Bool.and_eq_false_iff, decide_eq_false_iff_not, decide_eq_false_iff_not]; omega
 rw [e, ai h1, ai h2]; rfl
theorem JP (a b c : Int) (s : ByteArray) : ∃ x, gk a b c s = some (x, ()) ∧ hJ a b c s = some (x, ()) := by
 unfold gk hJ; simp only [mT, sF, oG, xM, Option.bind_some]
 cases (decide (1 ≤ a) && decide (a ≤ 60))
 · exact ⟨_, rfl, rfl⟩
 cases (decide (1 ≤ b) && decide (b ≤ 5))
 · exact ⟨_, rfl, rfl⟩
 cases (decide (1 ≤ c) && decide (c ≤ 2))
 · exact ⟨_, rfl, rfl⟩
 · exact ⟨_, rfl, rfl⟩
theorem HF (xs : List (Int × Int × Int × ByteArray × Unit)) (h : xs.length ≤ 1048576) :
   ∃ e f, aE de (xs, (0 : Int), ()) = some e ∧ aE iF (xs, xs, ((List.length xs : Nat) : Int), (0 : Int), ()) = some f ∧ zK e f := by
 refine mE xs.length (fun k x y => x = (xs, ((k : Nat) : Int), ()) ∧ y = (xs, xs, ((List.length xs : Nat) : Int), ((k : Nat) : Int), ())) zK ?_ ⟨rfl, rfl⟩
 rintro k x y hk ⟨rfl, rfl⟩
 by_cases bP : k < xs.length
 · obtain ⟨b, r1, r2⟩ := JP xs[k].1 xs[k].2.1 xs[k].2.2.1 xs[k].2.2.2.1; simp only [de, iA, iF, nK, az bP, aq, cond_true, aC, List.getElem?_eq_getElem bP, Option.bind_some, r1, r2, aJ (show k < 4611686018427387904 by omega)]
   cases b
   · exact .inl ⟨.inr (false, ()), .inr (false, ()), rfl, rfl, rfl⟩
   · by_cases h0 : 0 < k
     · have hp : k - 1 < xs.length := by omega
       rw [oH h0 (by omega)]; simp only [ah (show (0 : Int) < ((k : Nat) : Int) by omega), Bool.not_true, cond_false, cond_true, aq, aC, List.getElem?_eq_getElem hp, Option.bind_some]
       cases decide (xs[k].1 ≤ xs[k - 1].1)
       · exact .inr ⟨bP, _, _, rfl, rfl, rfl, rfl⟩
       · exact .inl ⟨.inr (false, ()), .inr (false, ()), rfl, rfl, rfl⟩
     · have : k = 0 := by omega
       subst this; simp only [ai (show ¬ (0 : Int) < ((0 : Nat) : Int) by omega), Bool.not_true, cond_false]; exact .inr ⟨bP, _, _, rfl, rfl, rfl, rfl⟩
 · have : k = xs.length := by omega
   subst this; exact .inl ⟨.inl (), .inl (), by simp only [de, iA, aF, cond_false], by simp only [iF, nK, aF, cond_false], trivial⟩
theorem Bo (xs : List (Int × Int × Int × ByteArray × Unit)) (h : xs.length ≤ 1048576) : ∃ b, fu xs = some (b, ()) ∧ ij xs = some (b, ()) := by
 obtain ⟨e, f, h1, h2, h3⟩ := HF xs h; unfold fu ij; rw [h1, h2]
 cases e with
 | inl e => cases f with
   | inl f => exact ⟨true, rfl, rfl⟩
   | inr f => exact h3.elim
 | inr e => cases f with
   | inl f => exact h3.elim
   | inr f => exact ⟨e.1, rfl, by rw [show e.1 = f.1 from h3]; rfl⟩
abbrev dz : Type := Int × Int × Int × ByteArray × Unit
abbrev aM : Type := List dz
def cV (xs : aM) (s : Int) : Option dz := xs.find? fun r => decide (r.1 = s)
def mw : Option dz → Int × Int × Int × ByteArray × Bool × Unit
 | none => (0, 0, 0, ByteArray.empty, false, ())
 | some r => (r.1, r.2.1, r.2.2.1, r.2.2.2.1, true, ())
def IB : Option dz → Sum (Int × Int × Int × ByteArray × Unit) (Int × Int × Int × ByteArray × Bool × Unit)
 | none => .inl (0, 0, 0, ByteArray.empty, ())
 | some r => .inr (mw (some r))
theorem CU (xs : aM) (s : Int) {k : Nat} (hk : k < xs.length) : cV (xs.drop k) s = if xs[k].1 = s then some xs[k] else cV (xs.drop (k + 1)) s := by
 unfold cV; rw [List.drop_eq_getElem_cons hk, List.find?_cons]
 by_cases h : xs[k].1 = s
 · rw [ah h, if_pos h]
 · rw [ai h, if_neg h]
theorem qf (xs : aM) (s : Int) (h : xs.length ≤ 1048576) : jo xs s = some (mw (cV xs s)) := by
 have hl := qS (round := gS) (n := xs.length) (fun k => (xs, s, (0 : Int), (0 : Int), (0 : Int), ByteArray.empty, ((k : Nat) : Int), ())) (fun k => some (IB (cV (xs.drop k) s)))
   ⟨.inl (0, 0, 0, ByteArray.empty, ()), by simp only [gS, pc, aF, cond_false], by rw [List.drop_length]; rfl⟩ (fun k hk => by
     rw [CU xs s hk]; simp only [gS, pc, az hk, aq, cond_true, aC, List.getElem?_eq_getElem hk, Option.bind_some, aJ (show k < 4611686018427387904 by omega)]
     by_cases h : xs[k].1 = s
     · rw [ah h, if_pos h]; exact .inl ⟨_, rfl, rfl⟩
     · rw [ai h, if_neg h]; exact .inr ⟨rfl, rfl⟩) 0 (Nat.zero_le _)
 unfold jo; have hl : aE gS (xs, s, (0 : Int), (0 : Int), (0 : Int), ByteArray.empty, (0 : Int), ()) = _ := hl; rw [hl, List.drop_zero]
 cases cV xs s <;> rfl
theorem qg (xs : aM) (s : Int) (h : xs.length ≤ 1048576) : js xs s = some (mw (cV xs s)) := by
 have hl := qS (round := gW) (n := xs.length) (fun k => (s, (0 : Int), (0 : Int), (0 : Int), ByteArray.empty, xs, ((List.length xs : Nat) : Int), ((k : Nat) : Int), ())) (fun k => some (IB (cV (xs.drop k) s)))
   ⟨.inl (0, 0, 0, ByteArray.empty, ()), by simp only [gW, py, aF, cond_false], by rw [List.drop_length]; rfl⟩ (fun k hk => by
     rw [CU xs s hk]; simp only [gW, py, az hk, aq, cond_true, aC, List.getElem?_eq_getElem hk, Option.bind_some, aJ (show k < 4611686018427387904 by omega)]
     by_cases h : xs[k].1 = s
     · rw [ah h, if_pos h]; exact .inl ⟨_, rfl, rfl⟩
     · rw [ai h, if_neg h]; exact .inr ⟨rfl, rfl⟩) 0 (Nat.zero_le _)
 unfold js; have hl : aE gW (s, (0 : Int), (0 : Int), (0 : Int), ByteArray.empty, xs, ((List.length xs : Nat) : Int), (0 : Int), ()) = _ := hl; rw [hl, List.drop_zero]
 cases cV xs s <;> rfl
theorem zj : (n : Nat) → (ys : List Int) → (∀ i, i < n → ((i + 1 : Nat) : Int) ∈ ys) → n ≤ ys.length
 | 0, _, _ => Nat.zero_le _
 | n + 1, ys, h => by
   have hm := h n (by omega); have := zj n (ys.erase ((n + 1 : Nat) : Int)) (fun i hi => (List.mem_erase_of_ne (by omega)).2 (h i (by omega))); rw [List.length_erase_of_mem hm] at this; have : 0 < ys.length := List.length_pos_of_mem hm; omega
theorem Bp {xs : aM} {s : Int} {r : dz} (h : cV xs s = some r) : r ∈ xs ∧ r.1 = s := by
 unfold cV at h; exact ⟨List.mem_of_find?_eq_some h, by have := List.find?_some h; simpa using this⟩
def IC (xs : aM) (n : Nat) : Prop := n ≤ xs.length ∧ (∀ i, i < n → (cV xs ((i + 1 : Nat) : Int)).isSome = true) ∧ cV xs ((n + 1 : Nat) : Int) = none
theorem Ox {xs : aM} (h : ∀ i, i < xs.length → (cV xs ((i + 1 : Nat) : Int)).isSome = true) : cV xs ((xs.length + 1 : Nat) : Int) = none := by
 cases hq : cV xs ((xs.length + 1 : Nat) : Int) with
 | none => rfl
 | some r =>
   have key := zj (xs.length + 1) (xs.map (·.1)) (fun i hi => by
     have : ∃ r, cV xs ((i + 1 : Nat) : Int) = some r := by
       by_cases Nz : i < xs.length
       · exact Option.isSome_iff_exists.1 (h i Nz)
       · have : i = xs.length := by omega
         subst this; exact ⟨r, hq⟩
     obtain ⟨r', hr⟩ := this; obtain ⟨m1, m2⟩ := Bp hr; exact List.mem_map.2 ⟨r', m1, m2⟩)
   rw [List.length_map] at key; omega
theorem Bq (xs : aM) (h : xs.length ≤ 1048576) : ∃ n : Nat, eY xs = some (((n : Nat) : Int), ()) ∧ gF xs = some (((n : Nat) : Int), ()) ∧ IC xs n := by
 obtain ⟨e, f, h1, h2, n, h3⟩ : ∃ e f, aE mn (xs, (0 : Int), (0 : Int), ()) = some e ∧ aE mr (xs, (0 : Int), ()) = some f ∧ ∃ n : Nat, (e = .inl (((n : Nat) : Int), ()) ∨ e = .inr (((n : Nat) : Int), ())) ∧ f = .inr (((n : Nat) : Int), ()) ∧ IC xs n := by
   refine mE xs.length (fun k x y => x = (xs, ((k : Nat) : Int), ((k : Nat) : Int), ()) ∧ y = (xs, ((k : Nat) : Int), ()) ∧ ∀ i, i < k → (cV xs ((i + 1 : Nat) : Int)).isSome = true) _ ?_ ⟨rfl, rfl, fun i hi => by omega⟩
   rintro k x y hk ⟨rfl, rfl, oU⟩
   simp only [mn, vt, mr, vu, aJ (show k < 4611686018427387904 by omega), qf xs _ h, qg xs _ h, Option.bind_some]
   by_cases bP : k < xs.length
   · rw [az bP]
     cases hq : cV xs ((k + 1 : Nat) : Int) with
     | none => exact .inl ⟨.inr (((k : Nat) : Int), ()), .inr (((k : Nat) : Int), ()), rfl, rfl, k, .inr rfl, rfl, hk, oU, hq⟩
     | some r =>
       refine .inr ⟨bP, _, _, rfl, rfl, rfl, rfl, fun i hi => ?_⟩
       by_cases Nz : i < k
       · exact oU i Nz
       · have : i = k := by omega
         subst this; rw [hq]; rfl
   · have : k = xs.length := by omega
     subst this; have hq := Ox oU; rw [aF, hq]; exact .inl ⟨.inl (((xs.length : Nat) : Int), ()), .inr (((xs.length : Nat) : Int), ()), rfl, rfl, xs.length, .inl rfl, rfl, hk, oU, hq⟩
 obtain ⟨h3, rfl, h4⟩ := h3; unfold eY gF; rw [h1, h2]; refine ⟨n, ?_, rfl, h4⟩; rcases h3 with rfl | rfl <;> rfl
theorem DO (xs : List (Int × Unit)) (d : Int) (h : xs.length ≤ 1048576) : dk xs d = some (decide ((d, ()) ∈ xs), ()) := by
 have hl := qS (round := bY) (n := xs.length) (fun k => (xs, d, ((k : Nat) : Int), ())) (fun k => some (if (d, ()) ∈ xs.drop k then .inr (true, ()) else .inl ()))
   ⟨.inl (), by simp only [bY, gz, aF, cond_false], by rw [List.drop_length]; rfl⟩ (fun k hk => by
     rw [List.drop_eq_getElem_cons hk]; simp only [bY, gz, az hk, aq, cond_true, aC, List.getElem?_eq_getElem hk, Option.bind_some, aJ (show k < 4611686018427387904 by omega)]
     by_cases e : xs[k].1 = d
     · rw [ah e]; exact .inl ⟨_, rfl, by rw [if_pos (List.mem_cons.2 (.inl (by rw [← e])))]⟩
     · rw [ai e]; refine .inr ⟨rfl, ?_⟩; have : ((d, ()) ∈ xs[k] :: xs.drop (k + 1)) ↔ ((d, ()) ∈ xs.drop (k + 1)) := by
         rw [List.mem_cons]; exact ⟨fun h => h.resolve_left (fun q => e (by rw [← q])), .inr⟩
       by_cases q : (d, ()) ∈ xs.drop (k + 1)
       · rw [if_pos q, if_pos (this.2 q)]
       · rw [if_neg q, if_neg (fun z => q (this.1 z))]) 0 (Nat.zero_le _)
 unfold dk; have hl : aE bY (xs, d, (0 : Int), ()) = _ := hl; rw [hl, List.drop_zero]
 by_cases q : (d, ()) ∈ xs
 · rw [if_pos q, ah q]; rfl
 · rw [if_neg q, ai q]; rfl
def sW (l : List (Int × Unit)) (n : Nat) : Prop := ∀ j (h : j < l.length), j < n → (decide (1 ≤ l[j].1) && decide (l[j].1 ≤ 2)) = true
def gO (l : List (ByteArray × Unit)) (n : Nat) : Prop := ∀ j (h : j < l.length), j < n → ByteArray.size l[j].1 ≤ 60
def MS (lv : List (Int × Unit)) (tx : List (ByteArray × Unit)) : Sum (List (Int × Unit) × List (ByteArray × Unit) × Unit) (Bool × Unit) → Prop
 | .inl y => y = (lv, tx, ()) ∧ sW lv (min lv.length tx.length) ∧ gO tx (min lv.length tx.length)
 | .inr b => b.1 = false ∧ ¬ (sW lv (min lv.length tx.length) ∧ gO tx (min lv.length tx.length))
theorem Br (lv : List (Int × Unit)) (tx : List (ByteArray × Unit)) (h1 : lv.length ≤ 1048576) (h2 : tx.length ≤ 1048576) : ∃ b, mm lv tx = some (b, ()) ∧ (b = true ↔ tx.length ≤ 20 ∧ lv.length = tx.length ∧ sW lv lv.length ∧ gO tx tx.length) := by
 obtain ⟨e, he, hq⟩ := eg (round := fD) (x := (lv, tx, ((0 : Nat) : Int), ())) (min lv.length tx.length) (fun k x => x = (lv, tx, ((k : Nat) : Int), ()) ∧ sW lv k ∧ gO tx k) (MS lv tx) (by
     rintro x ⟨rfl, g1, g2⟩
     refine ⟨.inl (lv, tx, ()), ?_, rfl, g1, g2⟩
     by_cases hb : min lv.length tx.length < tx.length
     · have e : min lv.length tx.length = lv.length := by omega
       simp only [fD, jz, az hb, cond_true]; rw [e, aF]; rfl
     · have e : min lv.length tx.length = tx.length := by omega
       simp only [fD, jz]; rw [e, aF]; rfl) (by
     rintro k x hk ⟨rfl, g1, g2⟩
     have hl : k < lv.length := by omega
     have ht : k < tx.length := by omega
     simp only [fD, jz, az hl, az ht, aq, cond_true, aC, List.getElem?_eq_getElem hl, List.getElem?_eq_getElem ht, Option.bind_some, mT, aJ (show k < 4611686018427387904 by omega)]
     cases W4 : (decide (1 ≤ lv[k].1) && decide (lv[k].1 ≤ 2))
     · refine .inl ⟨.inr (false, ()), rfl, rfl, fun hn => ?_⟩; have := hn.1 k hl (by omega); rw [W4] at this
       cases this
     · by_cases hs : (60 : Int) < ((ByteArray.size tx[k].1 : Nat) : Int)
       · rw [ah hs]; refine .inl ⟨.inr (false, ()), rfl, rfl, fun hn => ?_⟩; have := hn.2 k ht (by omega); omega
       · rw [ai hs]; refine .inr ⟨_, rfl, rfl, fun j hj F0 => ?_, fun j hj F0 => ?_⟩
         · by_cases e : j < k
           · exact g1 j hj e
           · have : j = k := by omega
             subst this; exact W4
         · by_cases e : j < k
           · exact g2 j hj e
           · have : j = k := by omega
             subst this; omega) ⟨rfl, fun j _ h => by omega, fun j _ h => by omega⟩
 unfold mm; rw [show (0 : Int) = ((0 : Nat) : Int) from rfl, he]
 cases e with
 | inr e =>
   obtain ⟨q1, q2⟩ := hq; refine ⟨false, by rw [← q1]; rfl, ⟨(fun h => by cases h), fun ⟨w1, w2, w3, w4⟩ => ?_⟩⟩; exact absurd ⟨fun j hj hm => w3 j hj hj, fun j hj hm => w4 j hj hj⟩ q2
 | inl e =>
   obtain ⟨q1, q2, q3⟩ := hq; subst q1; simp only [iw]
   by_cases w1 : ((List.length tx : Nat) : Int) ≤ 20
   · rw [ah w1]; refine ⟨_, rfl, ?_⟩; rw [decide_eq_true_eq]
     constructor
     · intro w2; have w2 : lv.length = tx.length := by omega
       exact ⟨by omega, w2, fun j hj _ => q2 j hj (by omega), fun j hj _ => q3 j hj (by omega)⟩
     · rintro ⟨_, w2, _⟩
       rw [w2]
   · rw [ai w1]; exact ⟨false, rfl, ⟨(fun h => by cases h), fun ⟨w2, _⟩ => by omega⟩⟩
theorem HG (tx : List (ByteArray × Unit)) (h2 : tx.length ≤ 1048576) : ∃ b, mq tx = some (b, ()) ∧ (b = true ↔ gO tx tx.length) := by
 obtain ⟨e, he, hq⟩ := eg (round := gV) (x := (tx, ((List.length tx : Nat) : Int), ((0 : Nat) : Int), ())) tx.length (fun k x => x = (tx, ((List.length tx : Nat) : Int), ((k : Nat) : Int), ()) ∧ gO tx k) (fun e => (e = .inl () ∧ gO tx tx.length) ∨ (e = .inr (false, ()) ∧ ¬ gO tx tx.length)) (by
     rintro x ⟨rfl, g2⟩
     exact ⟨.inl (), by simp only [gV, me, aF, cond_false], .inl ⟨rfl, g2⟩⟩) (by
     rintro k x hk ⟨rfl, g2⟩
     simp only [gV, me, az hk, aq, cond_true, aC, List.getElem?_eq_getElem hk, Option.bind_some, aJ (show k < 4611686018427387904 by omega)]
     by_cases hs : (60 : Int) < ((ByteArray.size tx[k].1 : Nat) : Int)
     · rw [ah hs]; refine .inl ⟨.inr (false, ()), rfl, .inr ⟨rfl, fun hn => ?_⟩⟩; have := hn k hk hk; omega
     · rw [ai hs]; refine .inr ⟨_, rfl, rfl, fun j hj F0 => ?_⟩
       by_cases e : j < k
       · exact g2 j hj e
       · have : j = k := by omega
         subst this; omega) ⟨rfl, fun j _ h => by omega⟩
 unfold mq; rw [show (0 : Int) = ((0 : Nat) : Int) from rfl, he]; rcases hq with ⟨rfl, q⟩ | ⟨rfl, q⟩
 · exact ⟨true, rfl, ⟨fun _ => q, fun _ => rfl⟩⟩
 · exact ⟨false, rfl, ⟨(fun h => by cases h), fun h => absurd h q⟩⟩
theorem Bs (c0 c1 c2 c3 c4 : Int) (xs : List (Int × Unit)) : ∃ b, dH c0 c1 c2 c3 c4 xs = some (b, ()) ∧ dR c0 c1 c2 c3 c4 xs = some (b, ()) := by
 unfold dH ll dR
 cases decide (c0 = 0)
 · exact ⟨_, rfl, rfl⟩
 cases decide (c1 = 0)
 · exact ⟨_, rfl, rfl⟩
 cases decide (c2 = 0)
 · exact ⟨_, rfl, rfl⟩
 cases decide (c3 = 0)
 · exact ⟨_, rfl, rfl⟩
 cases decide (c4 = 0)
 · exact ⟨_, rfl, rfl⟩
 cases xs with
 | nil =>
   have hl := ef (round := fi) (e := .inl ()) 0 (fun k => (([] : List (Int × Unit)), ([] : List (Int × Unit)), ((k : Nat) : Int), ())) (by
     simp only [fi, nT, List.length_nil, aF, cond_false]) (fun k hk => by omega)
   have hl : aE fi (([] : List (Int × Unit)), ([] : List (Int × Unit)), (0 : Int), ()) = _ := hl; refine ⟨true, ?_, rfl⟩; simp only [cond_true, jA, List.length_nil, decide_true, Bool.not_true, cond_false, hl, iw, Option.bind_some]
 | cons x xs =>
   have e : decide (((List.length (x :: xs) : Nat) : Int) = (0 : Int)) = false := ai (by rw [List.length_cons]; omega); have e2 : decide (((List.length (x :: xs) : Nat) : Int) = ((List.length ([] : List (Int × Unit)) : Nat) : Int)) = false := e; refine ⟨false, ?_, ?_⟩
   · simp only [cond_true, jA, e2, Bool.not_false, Option.bind_some]
   · simp only [cond_true, e]
abbrev PZ : Type := Int × Int × (List (Int × Unit)) × aM × (List (Int × Unit)) × (List (ByteArray × Unit)) × Int × Int × Int × Int × Int × Int × Int × Int × Int × (List (Int × Unit)) × Unit
def Sz (m : PZ) (lv : List (Int × Unit)) : Sum PZ (Bool × Unit) → Prop
 | .inl y => y = m ∧ sW lv lv.length
 | .inr b => b.1 = false ∧ ¬ sW lv lv.length
theorem FA (cT : Int) (cU : Int) (cu : List (Int × Unit)) (cm : List (Int × Int × Int × ByteArray × Unit)) (bR : List (Int × Unit)) (cn : List (ByteArray × Unit)) (dF : Int) (dY : Int) (dZ : Int) (ea : Int) (bD : Int) (bE : Int) (bF : Int) (bG : Int) (bH : Int) (bu : List (Int × Unit))
   (h0 : (List.length cu + wl D8 cu) + (List.length cm + wl nO cm) + (List.length bR + wl D8 bR) + (List.length cn + wl Tu cn) + (List.length bu + wl D8 bu) ≤ 1048576) : ∃ o0, eK cT cU cu cm bR cn dF dY dZ ea bD bE bF bG bH bu = some (o0, ()) ∧ fy cT cU cu cm bR cn dF dY dZ ea bD bE bF bG bH bu = some (o0, ()) := by
 obtain ⟨b1, r1, r2, _⟩ := CS cU cu (by omega); obtain ⟨b2, c1, c2⟩ := vz cT cu (by omega); obtain ⟨b3, i1, i2⟩ := Bo cm (by omega); obtain ⟨b4, t1, t2⟩ := Br bR cn (by omega) (by omega); obtain ⟨b5, s1, s2⟩ := HG cn (by omega); obtain ⟨n, a1, a2, _⟩ := Bq cm (by omega); obtain ⟨b6, z1, z2⟩ := Bs bD bE bF bG bH bu; obtain ⟨b7, k1, k2, _⟩ := sG bD bE bF bG bH bu (by omega); obtain ⟨e, he, hq⟩ := eg (round := gX) (x := (cT, cU, cu, cm, bR, cn, dF, dY, dZ, ea, bD, bE, bF, bG, bH, bu, bR, ((List.length bR : Nat) : Int), ((0 : Nat) : Int), ())) bR.length
   (fun k x => x = (cT, cU, cu, cm, bR, cn, dF, dY, dZ, ea, bD, bE, bF, bG, bH, bu, bR, ((List.length bR : Nat) : Int), ((k : Nat) : Int), ()) ∧ sW bR k)
   (Sz (cT, cU, cu, cm, bR, cn, dF, dY, dZ, ea, bD, bE, bF, bG, bH, bu, ()) bR) (by
     rintro x ⟨rfl, g⟩
     exact ⟨.inl _, by simp only [gX, pz, aF, cond_false], rfl, g⟩) (by
     rintro k x hk ⟨rfl, g⟩
     simp only [gX, pz, az hk, aq, cond_true, aC, List.getElem?_eq_getElem hk, Option.bind_some, xM, aJ (show k < 4611686018427387904 by omega)]
     cases W4 : (decide (1 ≤ bR[k].1) && decide (bR[k].1 ≤ 2))
     · refine .inl ⟨.inr (false, ()), rfl, rfl, fun hn => ?_⟩; have := hn k hk hk; rw [W4] at this
       cases this
     · refine .inr ⟨_, rfl, rfl, fun j hj F0 => ?_⟩
       by_cases e : j < k
       · exact g j hj e
       · have : j = k := by omega
         subst this; exact W4) ⟨rfl, fun j _ h => by omega⟩
 have he : aE gX (cT, cU, cu, cm, bR, cn, dF, dY, dZ, ea, bD, bE, bF, bG, bH, bu, bR, ((List.length bR : Nat) : Int), (0 : Int), ()) = some e := he; unfold eK fy; simp only [r1, r2, c1, c2, i1, i2, t1, s1, Option.bind_some, he]
 cases b1
 · cases b2
   · exact ⟨_, rfl, rfl⟩
   · exact ⟨_, rfl, rfl⟩
 cases b2
 · exact ⟨_, rfl, rfl⟩
 cases b3
 · exact ⟨_, rfl, rfl⟩
 simp only [Bool.not_true, cond_false]
 by_cases w1 : (20 : Int) < ((List.length cn : Nat) : Int)
 · have : b4 = false := by
     cases b4
     · rfl
     · have := (t2.1 rfl).1; omega
   subst this; rw [ah w1]; exact ⟨_, rfl, rfl⟩
 rw [ai w1]
 cases b5
 · have : b4 = false := by
     cases b4
     · rfl
     · have := s2.2 (t2.1 rfl).2.2.2; cases this
   subst this; exact ⟨_, rfl, rfl⟩
 by_cases w2 : ((List.length bR : Nat) : Int) = ((List.length cn : Nat) : Int)
 case neg =>
   have : b4 = false := by
     cases b4
     · rfl
     · have := (t2.1 rfl).2.1; omega
   subst this; rw [ai w2]; exact ⟨_, rfl, rfl⟩
 rw [ah w2]
 cases e with
 | inr e =>
   obtain ⟨q1, q2⟩ := hq; have : b4 = false := by
     cases b4
     · rfl
     · exact absurd (t2.1 rfl).2.2.1 q2
   subst this; refine ⟨false, rfl, ?_⟩; show some (e.1, ()) = _; rw [q1]
 | inl e =>
   obtain ⟨q1, q2⟩ := hq; subst q1; have : b4 = true := t2.2 ⟨by omega, by omega, q2, s2.1 rfl⟩; subst this; simp only [Bool.not_true, cond_false, iw, a1, a2, z1, z2, k1, k2, mT, sF, Option.bind_some]
   cases (decide (0 ≤ dF) && decide (dF ≤ 1000000000))
   · exact ⟨_, rfl, rfl⟩
   cases (decide (0 ≤ dY) && decide (dY ≤ 60))
   · exact ⟨_, rfl, rfl⟩
   cases (decide (0 ≤ dZ) && decide (dZ ≤ ((n : Nat) : Int)))
   · exact ⟨_, rfl, rfl⟩
   cases (decide (0 ≤ ea) && decide (ea ≤ ((n : Nat) : Int)))
   · exact ⟨_, rfl, rfl⟩
   cases b6
   · exact ⟨_, rfl, rfl⟩
   · exact ⟨_, rfl, rfl⟩
def j5 (r : dz) : Prop := (1 ≤ r.1 ∧ r.1 ≤ 60) ∧ (1 ≤ r.2.1 ∧ r.2.1 ≤ 5) ∧ (1 ≤ r.2.2.1 ∧ r.2.2.1 ≤ 2) ∧ ByteArray.size r.2.2.2.1 ≤ 60
def gG (xs : aM) (n : Nat) : Prop := ∀ k (h : k < xs.length), k < n → j5 xs[k] ∧ ∀ h0 : 0 < k, xs[k - 1].1 < xs[k].1
theorem FB (a b c : Int) (s : ByteArray) : ∃ x, gk a b c s = some (x, ()) ∧ hJ a b c s = some (x, ()) ∧ (x = true ↔ j5 (a, b, c, s, ())) := by
 have hi : ∀ {p q r : Prop} [Decidable p] [Decidable q], (decide p && decide q) = false → ¬ ((p ∧ q) ∧ r) := by
   intro p q r _ _ h ⟨h1, _⟩; rw [decide_eq_true h1.1, decide_eq_true h1.2] at h
   cases h
 unfold gk hJ j5; simp only [mT, sF, oG, xM, Option.bind_some]
 cases h1 : (decide (1 ≤ a) && decide (a ≤ 60))
 · exact ⟨false, rfl, rfl, ⟨fun h => (by cases h), fun h => absurd h (hi h1)⟩⟩
 rw [Bool.and_eq_true, decide_eq_true_eq, decide_eq_true_eq] at h1
 cases h2 : (decide (1 ≤ b) && decide (b ≤ 5))
 · exact ⟨false, rfl, rfl, ⟨fun h => (by cases h), fun h => absurd h.2 (hi h2)⟩⟩
 rw [Bool.and_eq_true, decide_eq_true_eq, decide_eq_true_eq] at h2
 cases h3 : (decide (1 ≤ c) && decide (c ≤ 2))
 · exact ⟨false, rfl, rfl, ⟨fun h => (by cases h), fun h => absurd h.2.2 (hi h3)⟩⟩
 rw [Bool.and_eq_true, decide_eq_true_eq, decide_eq_true_eq] at h3; refine ⟨_, rfl, rfl, ?_⟩; rw [decide_eq_true_eq]; exact ⟨fun h => ⟨h1, h2, h3, by omega⟩, fun h => by have := h.2.2.2; omega⟩
theorem JQ (xs : aM) (h : xs.length ≤ 1048576) : ∃ b, fu xs = some (b, ()) ∧ ij xs = some (b, ()) ∧ (b = true ↔ gG xs xs.length) := by
 obtain ⟨b, h1, h2⟩ := Bo xs h; refine ⟨b, h1, h2, ?_⟩; obtain ⟨e, he, hq⟩ := eg (round := de) (x := (xs, ((0 : Nat) : Int), ())) xs.length (fun k x => x = (xs, ((k : Nat) : Int), ()) ∧ gG xs k) (fun e => (e = .inl () ∧ gG xs xs.length) ∨ (e = .inr (false, ()) ∧ ¬ gG xs xs.length)) (by
     rintro x ⟨rfl, g⟩
     exact ⟨.inl (), by simp only [de, iA, aF, cond_false], .inl ⟨rfl, g⟩⟩) (by
     rintro k x hk ⟨rfl, g⟩
     obtain ⟨b, r1, _, r3⟩ := FB xs[k].1 xs[k].2.1 xs[k].2.2.1 xs[k].2.2.2.1; have r3 : b = true ↔ j5 xs[k] := r3; simp only [de, iA, az hk, aq, cond_true, aC, List.getElem?_eq_getElem hk, Option.bind_some, r1, aJ (show k < 4611686018427387904 by omega)]; have more : j5 xs[k] → (∀ h0 : 0 < k, xs[k - 1].1 < xs[k].1) → gG xs (k + 1) := fun q1 q2 j hj F0 => by
       by_cases e : j < k
       · exact g j hj e
       · have : j = k := by omega
         subst this; exact ⟨q1, q2⟩
     cases b
     · exact .inl ⟨.inr (false, ()), rfl, .inr ⟨rfl, fun hn => absurd (r3.2 (hn k hk hk).1) (by simp)⟩⟩
     · have q1 := r3.1 rfl
       by_cases h0 : 0 < k
       · have hp : k - 1 < xs.length := by omega
         rw [oH h0 (by omega)]; simp only [ah (show (0 : Int) < ((k : Nat) : Int) by omega), Bool.not_true, cond_false, cond_true, aq, aC, List.getElem?_eq_getElem hp, Option.bind_some]
         by_cases hs : xs[k].1 ≤ xs[k - 1].1
         · rw [ah hs]; refine .inl ⟨.inr (false, ()), rfl, .inr ⟨rfl, fun hn => ?_⟩⟩; have := (hn k hk hk).2 h0; omega
         · rw [ai hs]; exact .inr ⟨_, rfl, rfl, more q1 (fun _ => by omega)⟩
       · have : k = 0 := by omega
         subst this; simp only [ai (show ¬ (0 : Int) < ((0 : Nat) : Int) by omega), Bool.not_true, cond_false]; exact .inr ⟨_, rfl, rfl, more q1 (fun h => absurd h (by omega))⟩) ⟨rfl, fun j _ h => by omega⟩
 have he : aE de (xs, (0 : Int), ()) = some e := he; unfold fu at h1; rw [he] at h1; rcases hq with ⟨rfl, g⟩ | ⟨rfl, g⟩
 · injection h1 with h1; injection h1 with h1 _; exact ⟨fun _ => g, fun _ => h1.symm⟩
 · injection h1 with h1; injection h1 with h1 _; subst h1; exact ⟨fun h => (by cases h), fun h => absurd h g⟩
theorem MT {α : Type} (f : α → Nat) (c : Nat) : (xs : List α) → (∀ x ∈ xs, f x ≤ c) → wl f xs ≤ c * xs.length
 | [], _ => Nat.zero_le _
 | x :: xs, h => by
   rw [N2, List.length_cons, Nat.mul_succ]; have := MT f c xs (fun y hy => h y (List.mem_cons_of_mem _ hy)); have := h x List.mem_cons_self; omega
theorem CW (xs : aM) (h : gG xs xs.length) : ∀ k (hk : k < xs.length), ((k + 1 : Nat) : Int) ≤ xs[k].1
 | 0, hk => by have := (h 0 hk hk).1.1.1; omega
 | k + 1, hk => by
   have h1 := CW xs h k (by omega); have h2 := (h (k + 1) hk hk).2 (by omega); have h2 : xs[k].1 < xs[k + 1].1 := h2; omega
theorem cA (xs : aM) (h : gG xs xs.length) : xs.length ≤ 60 ∧ wl nO xs ≤ 3600 := by
 have h1 : xs.length ≤ 60 := by
   by_cases h0 : 0 < xs.length
   · have := CW xs h (xs.length - 1) (by omega); have := (h (xs.length - 1) (by omega) (by omega)).1.1.2; omega
   · omega
 refine ⟨h1, Nat.le_trans (MT nO 60 xs fun x hx => ?_) (by omega)⟩; obtain ⟨k, hk, rfl⟩ := List.mem_iff_getElem.1 hx; exact (h k hk hk).1.2.2.2
theorem zk (xs : List (ByteArray × Unit)) (h : gO xs xs.length) : wl Tu xs ≤ 60 * xs.length := by
 refine MT Tu 60 xs fun x hx => ?_
 obtain ⟨k, hk, rfl⟩ := List.mem_iff_getElem.1 hx; exact h k hk hk
structure P0 (c0 c1 : Int) (c2 : List (Int × Unit)) (c3 : aM) (c4 : List (Int × Unit)) (c5 : List (ByteArray × Unit)) (c6 c7 c8 c9 : Int) (W5 : List (Int × Unit)) : Prop where
 ring : 1 ≤ c2.length ∧ c2.length ≤ 5
 items : gG c3 c3.length
 texts : c5.length ≤ 20 ∧ c4.length = c5.length
 Oy : sW c4 c4.length
 short : gO c5 c5.length
 round : 0 ≤ c6 ∧ c6 ≤ 1000000000
 seen : 0 ≤ c7 ∧ c7 ≤ 60
 aru : ∃ n : Nat, eY c3 = some (((n : Nat) : Int), ()) ∧ gF c3 = some (((n : Nat) : Int), ()) ∧ IC c3 n ∧ (0 ≤ c8 ∧ c8 ≤ ((n : Nat) : Int)) ∧ 0 ≤ c9 ∧ c9 ≤ ((n : Nat) : Int)
 W6 : W5.length ≤ 20
theorem wJ {p q : Prop} [Decidable p] [Decidable q] (h : (decide p && decide q) = true) : p ∧ q := by
 rw [Bool.and_eq_true, decide_eq_true_eq, decide_eq_true_eq] at h; exact h
theorem P0.small {c0 c1 : Int} {c2 : List (Int × Unit)} {c3 : aM} {c4 : List (Int × Unit)} {c5 : List (ByteArray × Unit)} {c6 c7 c8 c9 : Int} {W5 : List (Int × Unit)} (h : P0 c0 c1 c2 c3 c4 c5 c6 c7 c8 c9 W5) :
   (List.length c2 + wl D8 c2) + (List.length c3 + wl nO c3) + (List.length c4 + wl D8 c4) + (List.length c5 + wl Tu c5) + (List.length W5 + wl D8 W5) ≤ 5000 := by
 have h1 := cA c3 h.items; have h2 := zk c5 h.short; have h3 := h.texts; have h4 := h.ring; have h5 := h.W6; rw [uO D8 (fun _ => rfl), uO D8 (fun _ => rfl), uO D8 (fun _ => rfl)]; omega
theorem zl (xs : aM) (h : xs.length ≤ 1048576) : dQ xs = some (xs, ()) := by
 unfold dQ; rw [aH (show (0 + xs.length) * 40 ≤ lim by unfold lim; omega)]; rfl
theorem DP (xs : List (ByteArray × Unit)) (h : xs.length ≤ 1048576) : gN xs = some (xs, ()) := by
 unfold gN; rw [aH (show (0 + xs.length) * 16 ≤ lim by unfold lim; omega)]; rfl
theorem kN (cT : Int) (cU : Int) (cu : List (Int × Unit)) (cm : aM) (bR : List (Int × Unit)) (cn : List (ByteArray × Unit)) (dF : Int) (dY : Int) (dZ : Int) (ea : Int) (bD : Int) (bE : Int) (bF : Int) (bG : Int) (bH : Int) (bu : List (Int × Unit))
   (h0 : (List.length cu + wl D8 cu) + (List.length cm + wl nO cm) + (List.length bR + wl D8 bR) + (List.length cn + wl Tu cn) + (List.length bu + wl D8 bu) ≤ 1048576) :
   fv cT cU cu cm bR cn dF dY dZ ea bD bE bF bG bH bu = some (cT, cU, cu, cm, bR, cn, dF, dY, dZ, ea, bD, bE, bF, bG, bH, bu, ()) ∧
   fx cT cU cu cm bR cn dF dY dZ ea bD bE bF bG bH bu = some (cT, cU, cu, cm, bR, cn, dF, dY, dZ, ea, bD, bE, bF, bG, bH, bu, ()) := by
 obtain ⟨t1, t2⟩ := il bD bE bF bG bH bu (by omega)
 constructor
 · unfold fv; rw [aH (show (0 + cu.length) * 8 ≤ lim by unfold lim; omega), aH (show (0 + cm.length) * 40 ≤ lim by unfold lim; omega), aH (show (0 + bR.length) * 8 ≤ lim by unfold lim; omega), aH (show (0 + cn.length) * 16 ≤ lim by unfold lim; omega), t1]; rfl
 · unfold fx qz; rw [q8 cu (by omega), zl cm (by omega), q8 bR (by omega), DP cn (by omega), t2]; rfl
abbrev dA : Type := List (Int × Unit)
abbrev kz : Type := Int × Int × Int × Int × Int × dA × Unit
abbrev ey : Type := Int × Int × dA × aM × dA × (List (ByteArray × Unit)) × Int × Int × Int × Int × Int × Int × Int × Int × Int × dA × Unit
def HH (xs : dA) (n : Nat) : Prop := ∀ k (h : k < xs.length), k < n → (1 ≤ xs[k].1 ∧ xs[k].1 ≤ 5) ∧ ∀ h0 : 0 < k, xs[k - 1].1 < xs[k].1
def pH (c : Int) (xs : dA) : Prop := (1 ≤ c ∧ c ≤ 9) ∧ (1 ≤ xs.length ∧ xs.length ≤ 5) ∧ HH xs xs.length
theorem MU (c : Int) (xs : dA) (h : xs.length ≤ 1048576) : ∃ b, b8 c xs = some (b, ()) ∧ kL c xs = some (b, ()) ∧ (b = true ↔ pH c xs) := by
 obtain ⟨b, h1, h2, _⟩ := CS c xs h; refine ⟨b, h1, h2, ?_⟩; obtain ⟨e, he, hq⟩ := eg (round := dM) (x := (c, xs, ((0 : Nat) : Int), ())) xs.length (fun k x => x = (c, xs, ((k : Nat) : Int), ()) ∧ HH xs k) (fun e => (e = .inl () ∧ HH xs xs.length) ∨ (e = .inr (false, ()) ∧ ¬ HH xs xs.length)) (by
     rintro x ⟨rfl, g⟩
     exact ⟨.inl (), by simp only [dM, jm, aF, cond_false], .inl ⟨rfl, g⟩⟩) (by
     rintro k x hk ⟨rfl, g⟩
     simp only [dM, jm, az hk, aq, cond_true, aC, List.getElem?_eq_getElem hk, Option.bind_some, mT, aJ (show k < 4611686018427387904 by omega)]; have more : (1 ≤ xs[k].1 ∧ xs[k].1 ≤ 5) → (∀ h0 : 0 < k, xs[k - 1].1 < xs[k].1) → HH xs (k + 1) := fun q1 q2 j hj F0 => by
       by_cases e : j < k
       · exact g j hj e
       · have : j = k := by omega
         subst this; exact ⟨q1, q2⟩
     cases hb : (decide (1 ≤ xs[k].1) && decide (xs[k].1 ≤ 5))
     · exact .inl ⟨.inr (false, ()), rfl, .inr ⟨rfl, fun hn => by
         have := (hn k hk hk).1; rw [ah this.1, ah this.2] at hb
         cases hb⟩⟩
     · have q1 := wJ hb
       by_cases h0 : 0 < k
       · have hp : k - 1 < xs.length := by omega
         rw [oH h0 (by omega)]; simp only [ah (show (0 : Int) < ((k : Nat) : Int) by omega), Bool.not_true, cond_false, cond_true, aq, aC, List.getElem?_eq_getElem hp, Option.bind_some]
         by_cases hs : xs[k].1 ≤ xs[k - 1].1
         · rw [ah hs]; refine .inl ⟨.inr (false, ()), rfl, .inr ⟨rfl, fun hn => ?_⟩⟩; have := (hn k hk hk).2 h0; omega
         · rw [ai hs]; exact .inr ⟨_, rfl, rfl, more q1 (fun _ => by omega)⟩
       · have : k = 0 := by omega
         subst this; simp only [ai (show ¬ (0 : Int) < ((0 : Nat) : Int) by omega), Bool.not_true, cond_false]; exact .inr ⟨_, rfl, rfl, more q1 (fun h => absurd h (by omega))⟩) ⟨rfl, fun j _ h => by omega⟩
 have he : aE dM (c, xs, (0 : Int), ()) = some e := he; unfold b8 at h1; simp only [mT, Option.bind_some, he] at h1; unfold pH
 cases a1 : (decide (1 ≤ c) && decide (c ≤ 9))
 · rw [a1] at h1; injection h1 with h1; injection h1 with h1 _; subst h1; refine ⟨fun h => (by cases h), fun h => ?_⟩; rw [ah h.1.1, ah h.1.2] at a1
   cases a1
 cases a2 : (decide (1 ≤ ((List.length xs : Nat) : Int)) && decide (((List.length xs : Nat) : Int) ≤ 5))
 · rw [a1, a2] at h1; injection h1 with h1; injection h1 with h1 _; subst h1; refine ⟨fun h => (by cases h), fun h => ?_⟩; rw [ah (show (1 : Int) ≤ ((List.length xs : Nat) : Int) by omega), ah (show ((List.length xs : Nat) : Int) ≤ 5 by omega)] at a2
   cases a2
 rw [a1, a2] at h1; have a1 := wJ a1; have a2 := wJ a2; rcases hq with ⟨rfl, g⟩ | ⟨rfl, g⟩
 · injection h1 with h1; injection h1 with h1 _; exact ⟨fun _ => ⟨a1, by omega, g⟩, fun _ => h1.symm⟩
 · injection h1 with h1; injection h1 with h1 _; subst h1; exact ⟨fun h => (by cases h), fun h => absurd h.2.2 g⟩
noncomputable def Bt (c : Int) (xs : dA) : Bool := match b8 c xs with | some x => x.1 | none => false
theorem qh (c : Int) (xs : dA) (h : xs.length ≤ 1048576) : b8 c xs = some (Bt c xs, ()) ∧ kL c xs = some (Bt c xs, ()) ∧ (Bt c xs = true ↔ pH c xs) := by
 obtain ⟨b, h1, h2, h3⟩ := MU c xs h; have : Bt c xs = b := by unfold Bt; rw [h1]
 rw [this]; exact ⟨h1, h2, h3⟩
noncomputable def qB (xs : aM) : Bool := match fu xs with | some x => x.1 | none => false
theorem uq (xs : aM) (h : xs.length ≤ 1048576) : fu xs = some (qB xs, ()) ∧ ij xs = some (qB xs, ()) ∧ (qB xs = true ↔ gG xs xs.length) := by
 obtain ⟨b, h1, h2, h3⟩ := JQ xs h; have : qB xs = b := by unfold qB; rw [h1]
 rw [this]; exact ⟨h1, h2, h3⟩
noncomputable def xN (r : dz) : Bool := match gk r.1 r.2.1 r.2.2.1 r.2.2.2.1 with | some x => x.1 | none => false
theorem zL (r : dz) : gk r.1 r.2.1 r.2.2.1 r.2.2.2.1 = some (xN r, ()) ∧ hJ r.1 r.2.1 r.2.2.1 r.2.2.2.1 = some (xN r, ()) ∧ (xN r = true ↔ j5 r) := by
 obtain ⟨b, h1, h2, h3⟩ := FB r.1 r.2.1 r.2.2.1 r.2.2.2.1; have : xN r = b := by unfold xN; rw [h1]
 rw [this]; exact ⟨h1, h2, h3⟩
theorem zM {p q : Prop} [Decidable p] [Decidable q] : (decide p && decide q) = true ↔ p ∧ q := by
 rw [Bool.and_eq_true, decide_eq_true_eq, decide_eq_true_eq]
theorem JR (c0 c1 c2 c3 c4 : Int) (xs : dA) : ∃ b, dH c0 c1 c2 c3 c4 xs = some (b, ()) ∧ dR c0 c1 c2 c3 c4 xs = some (b, ()) ∧ (b = true ↔ c0 = 0 ∧ c1 = 0 ∧ c2 = 0 ∧ c3 = 0 ∧ c4 = 0 ∧ xs = []) := by
 obtain ⟨b, h1, h2⟩ := Bs c0 c1 c2 c3 c4 xs; refine ⟨b, h1, h2, ?_⟩; unfold dR at h2; have hl : ((List.length xs : Nat) : Int) = 0 ↔ xs = [] := by rw [← List.length_eq_zero_iff]; omega
 by_cases e0 : c0 = 0
 case neg => simp [ai e0] at h2; subst h2; simp [e0]
 by_cases e1 : c1 = 0
 case neg => simp [ah e0, ai e1] at h2; subst h2; simp [e1]
 by_cases e2 : c2 = 0
 case neg => simp [ah e0, ah e1, ai e2] at h2; subst h2; simp [e2]
 by_cases e3 : c3 = 0
 case neg => simp [ah e0, ah e1, ah e2, ai e3] at h2; subst h2; simp [e3]
 by_cases e4 : c4 = 0
 case neg => simp [ah e0, ah e1, ah e2, ah e3, ai e4] at h2; subst h2; simp [e4]
 by_cases e5 : ((List.length xs : Nat) : Int) = 0
 · rw [ah e0, ah e1, ah e2, ah e3, ah e4, ah e5] at h2; injection h2 with h2; injection h2 with h2 _; exact ⟨fun _ => ⟨e0, e1, e2, e3, e4, hl.1 e5⟩, fun _ => h2.symm⟩
 · rw [ah e0, ah e1, ah e2, ah e3, ah e4, ai e5] at h2; injection h2 with h2; injection h2 with h2 _; subst h2; exact ⟨fun h => (by cases h), fun h => absurd (hl.2 h.2.2.2.2.2) e5⟩
def Blank (t : kz) : Prop := t.1 = 0 ∧ t.2.1 = 0 ∧ t.2.2.1 = 0 ∧ t.2.2.2.1 = 0 ∧ t.2.2.2.2.1 = 0 ∧ t.2.2.2.2.2.1 = []
noncomputable def pI (t : kz) : Bool := match dH t.1 t.2.1 t.2.2.1 t.2.2.2.1 t.2.2.2.2.1 t.2.2.2.2.2.1 with | some x => x.1 | none => false
theorem ur (t : kz) : dH t.1 t.2.1 t.2.2.1 t.2.2.2.1 t.2.2.2.2.1 t.2.2.2.2.2.1 = some (pI t, ()) ∧ dR t.1 t.2.1 t.2.2.1 t.2.2.2.1 t.2.2.2.2.1 t.2.2.2.2.2.1 = some (pI t, ()) ∧ (pI t = true ↔ Blank t) := by
 obtain ⟨b, h1, h2, h3⟩ := JR t.1 t.2.1 t.2.2.1 t.2.2.2.1 t.2.2.2.2.1 t.2.2.2.2.2.1; have : pI t = b := by unfold pI; rw [h1]
 rw [this]; exact ⟨h1, h2, h3⟩
def Bu (t : kz) : Prop := Sy t.1 t.2.1 t.2.2.1 t.2.2.2.1 t.2.2.2.2.1 t.2.2.2.2.2.1
noncomputable def B9 (t : kz) : Bool := match cf t.1 t.2.1 t.2.2.1 t.2.2.2.1 t.2.2.2.2.1 t.2.2.2.2.2.1 with | some x => x.1 | none => false
theorem Bv (t : kz) (h : t.2.2.2.2.2.1.length ≤ 1048576) : cf t.1 t.2.1 t.2.2.1 t.2.2.2.1 t.2.2.2.2.1 t.2.2.2.2.2.1 = some (B9 t, ()) ∧ eE t.1 t.2.1 t.2.2.1 t.2.2.2.1 t.2.2.2.2.1 t.2.2.2.2.2.1 = some (B9 t, ()) ∧ (B9 t = true ↔ Bu t) := by
 obtain ⟨b, h1, h2, h3⟩ := CT t.1 t.2.1 t.2.2.1 t.2.2.2.1 t.2.2.2.2.1 t.2.2.2.2.2.1 h; have : B9 t = b := by unfold B9; rw [h1]
 rw [this]; exact ⟨h1, h2, h3⟩
noncomputable def cG (xs : aM) : Nat := match eY xs with | some x => x.1.toNat | none => 0
theorem uu (xs : aM) (h : xs.length ≤ 1048576) : eY xs = some (((cG xs : Nat) : Int), ()) ∧ gF xs = some (((cG xs : Nat) : Int), ()) ∧ IC xs (cG xs) := by
 obtain ⟨n, h1, h2, h3⟩ := Bq xs h; have : cG xs = n := by unfold cG; rw [h1]; rfl
 rw [this]; exact ⟨h1, h2, h3⟩
structure sI (m : ey) : Prop where
 ring : pH m.2.1 m.2.2.1
 mem : (m.1, ()) ∈ m.2.2.1
 items : gG m.2.2.2.1 m.2.2.2.1.length
 texts : m.2.2.2.2.2.1.length ≤ 20 ∧ m.2.2.2.2.1.length = m.2.2.2.2.2.1.length
 Oy : sW m.2.2.2.2.1 m.2.2.2.2.1.length
 short : gO m.2.2.2.2.2.1 m.2.2.2.2.2.1.length
 round : 0 ≤ m.2.2.2.2.2.2.1 ∧ m.2.2.2.2.2.2.1 ≤ 1000000000
 seen : 0 ≤ m.2.2.2.2.2.2.2.1 ∧ m.2.2.2.2.2.2.2.1 ≤ 60
 line : 0 ≤ m.2.2.2.2.2.2.2.2.1 ∧ m.2.2.2.2.2.2.2.2.1 ≤ ((cG m.2.2.2.1 : Nat) : Int)
 heard : 0 ≤ m.2.2.2.2.2.2.2.2.2.1 ∧ m.2.2.2.2.2.2.2.2.2.1 ≤ ((cG m.2.2.2.1 : Nat) : Int)
 last : Blank (m.2.2.2.2.2.2.2.2.2.2.1, m.2.2.2.2.2.2.2.2.2.2.2.1, m.2.2.2.2.2.2.2.2.2.2.2.2.1, m.2.2.2.2.2.2.2.2.2.2.2.2.2.1, m.2.2.2.2.2.2.2.2.2.2.2.2.2.2.1, m.2.2.2.2.2.2.2.2.2.2.2.2.2.2.2.1, ()) ∨ Bu (m.2.2.2.2.2.2.2.2.2.2.1, m.2.2.2.2.2.2.2.2.2.2.2.1, m.2.2.2.2.2.2.2.2.2.2.2.2.1, m.2.2.2.2.2.2.2.2.2.2.2.2.2.1, m.2.2.2.2.2.2.2.2.2.2.2.2.2.2.1, m.2.2.2.2.2.2.2.2.2.2.2.2.2.2.2.1, ())
def zC (m : ey) : Nat := (List.length m.2.2.1 + wl D8 m.2.2.1) + (List.length m.2.2.2.1 + wl nO m.2.2.2.1) + (List.length m.2.2.2.2.1 + wl D8 m.2.2.2.2.1) + (List.length m.2.2.2.2.2.1 + wl Tu m.2.2.2.2.2.1) + (List.length m.2.2.2.2.2.2.2.2.2.2.2.2.2.2.2.1 + wl D8 m.2.2.2.2.2.2.2.2.2.2.2.2.2.2.2.1)
noncomputable def vg (m : ey) : Bool := match eK m.1 m.2.1 m.2.2.1 m.2.2.2.1 m.2.2.2.2.1 m.2.2.2.2.2.1 m.2.2.2.2.2.2.1 m.2.2.2.2.2.2.2.1 m.2.2.2.2.2.2.2.2.1 m.2.2.2.2.2.2.2.2.2.1 m.2.2.2.2.2.2.2.2.2.2.1 m.2.2.2.2.2.2.2.2.2.2.2.1 m.2.2.2.2.2.2.2.2.2.2.2.2.1 m.2.2.2.2.2.2.2.2.2.2.2.2.2.1 m.2.2.2.2.2.2.2.2.2.2.2.2.2.2.1 m.2.2.2.2.2.2.2.2.2.2.2.2.2.2.2.1 with | some x => x.1 | none => false
theorem sJ (m : ey) (h0 : zC m ≤ 1048576) : eK m.1 m.2.1 m.2.2.1 m.2.2.2.1 m.2.2.2.2.1 m.2.2.2.2.2.1 m.2.2.2.2.2.2.1 m.2.2.2.2.2.2.2.1 m.2.2.2.2.2.2.2.2.1 m.2.2.2.2.2.2.2.2.2.1 m.2.2.2.2.2.2.2.2.2.2.1 m.2.2.2.2.2.2.2.2.2.2.2.1 m.2.2.2.2.2.2.2.2.2.2.2.2.1 m.2.2.2.2.2.2.2.2.2.2.2.2.2.1 m.2.2.2.2.2.2.2.2.2.2.2.2.2.2.1 m.2.2.2.2.2.2.2.2.2.2.2.2.2.2.2.1 = some (vg m, ()) ∧ fy m.1 m.2.1 m.2.2.1 m.2.2.2.1 m.2.2.2.2.1 m.2.2.2.2.2.1 m.2.2.2.2.2.2.1 m.2.2.2.2.2.2.2.1 m.2.2.2.2.2.2.2.2.1 m.2.2.2.2.2.2.2.2.2.1 m.2.2.2.2.2.2.2.2.2.2.1 m.2.2.2.2.2.2.2.2.2.2.2.1 m.2.2.2.2.2.2.2.2.2.2.2.2.1 m.2.2.2.2.2.2.2.2.2.2.2.2.2.1 m.2.2.2.2.2.2.2.2.2.2.2.2.2.2.1 m.2.2.2.2.2.2.2.2.2.2.2.2.2.2.2.1 = some (vg m, ()) ∧ (vg m = true ↔ sI m) := by
 obtain ⟨b, k1, k2⟩ := FA m.1 m.2.1 m.2.2.1 m.2.2.2.1 m.2.2.2.2.1 m.2.2.2.2.2.1 m.2.2.2.2.2.2.1 m.2.2.2.2.2.2.2.1 m.2.2.2.2.2.2.2.2.1 m.2.2.2.2.2.2.2.2.2.1 m.2.2.2.2.2.2.2.2.2.2.1 m.2.2.2.2.2.2.2.2.2.2.2.1 m.2.2.2.2.2.2.2.2.2.2.2.2.1 m.2.2.2.2.2.2.2.2.2.2.2.2.2.1 m.2.2.2.2.2.2.2.2.2.2.2.2.2.2.1 m.2.2.2.2.2.2.2.2.2.2.2.2.2.2.2.1 h0; have hb : vg m = b := by unfold vg; rw [k1]
 rw [hb]; refine ⟨k1, k2, ?_⟩; unfold zC at h0; obtain ⟨r1, _, r3⟩ := qh m.2.1 m.2.2.1 (by omega); have c1 := DO m.2.2.1 m.1 (by omega); obtain ⟨i1, _, i3⟩ := uq m.2.2.2.1 (by omega); obtain ⟨b4, t1, t2⟩ := Br m.2.2.2.2.1 m.2.2.2.2.2.1 (by omega) (by omega); obtain ⟨a1, a2, a3⟩ := uu m.2.2.2.1 (by omega); have z1 : dH m.2.2.2.2.2.2.2.2.2.2.1 m.2.2.2.2.2.2.2.2.2.2.2.1 m.2.2.2.2.2.2.2.2.2.2.2.2.1 m.2.2.2.2.2.2.2.2.2.2.2.2.2.1 m.2.2.2.2.2.2.2.2.2.2.2.2.2.2.1 m.2.2.2.2.2.2.2.2.2.2.2.2.2.2.2.1 = some (pI (m.2.2.2.2.2.2.2.2.2.2.1, m.2.2.2.2.2.2.2.2.2.2.2.1, m.2.2.2.2.2.2.2.2.2.2.2.2.1, m.2.2.2.2.2.2.2.2.2.2.2.2.2.1, m.2.2.2.2.2.2.2.2.2.2.2.2.2.2.1, m.2.2.2.2.2.2.2.2.2.2.2.2.2.2.2.1, ()), ()) := (ur (m.2.2.2.2.2.2.2.2.2.2.1, m.2.2.2.2.2.2.2.2.2.2.2.1, m.2.2.2.2.2.2.2.2.2.2.2.2.1, m.2.2.2.2.2.2.2.2.2.2.2.2.2.1, m.2.2.2.2.2.2.2.2.2.2.2.2.2.2.1, m.2.2.2.2.2.2.2.2.2.2.2.2.2.2.2.1, ())).1; have z3 := (ur (m.2.2.2.2.2.2.2.2.2.2.1, m.2.2.2.2.2.2.2.2.2.2.2.1, m.2.2.2.2.2.2.2.2.2.2.2.2.1, m.2.2.2.2.2.2.2.2.2.2.2.2.2.1, m.2.2.2.2.2.2.2.2.2.2.2.2.2.2.1, m.2.2.2.2.2.2.2.2.2.2.2.2.2.2.2.1, ())).2.2; have w1 : cf m.2.2.2.2.2.2.2.2.2.2.1 m.2.2.2.2.2.2.2.2.2.2.2.1 m.2.2.2.2.2.2.2.2.2.2.2.2.1 m.2.2.2.2.2.2.2.2.2.2.2.2.2.1 m.2.2.2.2.2.2.2.2.2.2.2.2.2.2.1 m.2.2.2.2.2.2.2.2.2.2.2.2.2.2.2.1 = some (B9 (m.2.2.2.2.2.2.2.2.2.2.1, m.2.2.2.2.2.2.2.2.2.2.2.1, m.2.2.2.2.2.2.2.2.2.2.2.2.1, m.2.2.2.2.2.2.2.2.2.2.2.2.2.1, m.2.2.2.2.2.2.2.2.2.2.2.2.2.2.1, m.2.2.2.2.2.2.2.2.2.2.2.2.2.2.2.1, ()), ()) := (Bv (m.2.2.2.2.2.2.2.2.2.2.1, m.2.2.2.2.2.2.2.2.2.2.2.1, m.2.2.2.2.2.2.2.2.2.2.2.2.1, m.2.2.2.2.2.2.2.2.2.2.2.2.2.1, m.2.2.2.2.2.2.2.2.2.2.2.2.2.2.1, m.2.2.2.2.2.2.2.2.2.2.2.2.2.2.2.1, ()) (by show m.2.2.2.2.2.2.2.2.2.2.2.2.2.2.2.1.length ≤ _; omega)).1; have w3 := (Bv (m.2.2.2.2.2.2.2.2.2.2.1, m.2.2.2.2.2.2.2.2.2.2.2.1, m.2.2.2.2.2.2.2.2.2.2.2.2.1, m.2.2.2.2.2.2.2.2.2.2.2.2.2.1, m.2.2.2.2.2.2.2.2.2.2.2.2.2.2.1, m.2.2.2.2.2.2.2.2.2.2.2.2.2.2.2.1, ()) (by show m.2.2.2.2.2.2.2.2.2.2.2.2.2.2.2.1.length ≤ _; omega)).2.2; unfold eK at k1; simp only [r1, c1, i1, t1, a1, z1, w1, mT, Option.bind_some] at k1
 cases e1 : Bt m.2.1 m.2.2.1
 · rw [e1] at k1; injection k1 with k1; injection k1 with k1 _; subst k1; exact ⟨fun h => (by cases h), fun h => by rw [r3.2 h.ring] at e1; cases e1⟩
 by_cases e2 : (m.1, ()) ∈ m.2.2.1
 case neg =>
   rw [e1, ai e2] at k1; injection k1 with k1; injection k1 with k1 _; subst k1; exact ⟨fun h => (by cases h), fun h => absurd h.mem e2⟩
 cases e3 : qB m.2.2.2.1
 · rw [e1, ah e2, e3] at k1; injection k1 with k1; injection k1 with k1 _; subst k1; exact ⟨fun h => (by cases h), fun h => by rw [i3.2 h.items] at e3; cases e3⟩
 cases b4
 · rw [e1, ah e2, e3] at k1; injection k1 with k1; injection k1 with k1 _; subst k1; exact ⟨fun h => (by cases h), fun h => by have := t2.2 ⟨h.texts.1, h.texts.2, h.Oy, h.short⟩; cases this⟩
 rw [e1, ah e2, e3] at k1; simp only [Bool.not_true, cond_false] at k1
 cases e5 : (decide ((0 : Int) ≤ m.2.2.2.2.2.2.1) && decide (m.2.2.2.2.2.2.1 ≤ 1000000000))
 · rw [e5] at k1; injection k1 with k1; injection k1 with k1 _; subst k1; exact ⟨fun h => (by cases h), fun h => by rw [zM.2 h.round] at e5; cases e5⟩
 cases e6 : (decide ((0 : Int) ≤ m.2.2.2.2.2.2.2.1) && decide (m.2.2.2.2.2.2.2.1 ≤ 60))
 · rw [e5, e6] at k1; injection k1 with k1; injection k1 with k1 _; subst k1; exact ⟨fun h => (by cases h), fun h => by rw [zM.2 h.seen] at e6; cases e6⟩
 cases e8 : (decide ((0 : Int) ≤ m.2.2.2.2.2.2.2.2.1) && decide (m.2.2.2.2.2.2.2.2.1 ≤ ((cG m.2.2.2.1 : Nat) : Int)))
 · rw [e5, e6, e8] at k1; injection k1 with k1; injection k1 with k1 _; subst k1; exact ⟨fun h => (by cases h), fun h => by rw [zM.2 h.line] at e8; cases e8⟩
 cases e9 : (decide ((0 : Int) ≤ m.2.2.2.2.2.2.2.2.2.1) && decide (m.2.2.2.2.2.2.2.2.2.1 ≤ ((cG m.2.2.2.1 : Nat) : Int)))
 · rw [e5, e6, e8, e9] at k1; injection k1 with k1; injection k1 with k1 _; subst k1; exact ⟨fun h => (by cases h), fun h => by rw [zM.2 h.heard] at e9; cases e9⟩
 rw [e5, e6, e8, e9] at k1; obtain ⟨t3, t4, t5, t6⟩ := t2.1 rfl; have mk : (Blank (m.2.2.2.2.2.2.2.2.2.2.1, m.2.2.2.2.2.2.2.2.2.2.2.1, m.2.2.2.2.2.2.2.2.2.2.2.2.1, m.2.2.2.2.2.2.2.2.2.2.2.2.2.1, m.2.2.2.2.2.2.2.2.2.2.2.2.2.2.1, m.2.2.2.2.2.2.2.2.2.2.2.2.2.2.2.1, ()) ∨ Bu (m.2.2.2.2.2.2.2.2.2.2.1, m.2.2.2.2.2.2.2.2.2.2.2.1, m.2.2.2.2.2.2.2.2.2.2.2.2.1, m.2.2.2.2.2.2.2.2.2.2.2.2.2.1, m.2.2.2.2.2.2.2.2.2.2.2.2.2.2.1, m.2.2.2.2.2.2.2.2.2.2.2.2.2.2.2.1, ())) → sI m := fun hl => ⟨r3.1 e1, e2, i3.1 e3, ⟨t3, t4⟩, t5, t6, wJ e5, wJ e6, wJ e8, wJ e9, hl⟩
 cases W7 : pI (m.2.2.2.2.2.2.2.2.2.2.1, m.2.2.2.2.2.2.2.2.2.2.2.1, m.2.2.2.2.2.2.2.2.2.2.2.2.1, m.2.2.2.2.2.2.2.2.2.2.2.2.2.1, m.2.2.2.2.2.2.2.2.2.2.2.2.2.2.1, m.2.2.2.2.2.2.2.2.2.2.2.2.2.2.2.1, ())
 · rw [W7] at k1
   cases W8 : B9 (m.2.2.2.2.2.2.2.2.2.2.1, m.2.2.2.2.2.2.2.2.2.2.2.1, m.2.2.2.2.2.2.2.2.2.2.2.2.1, m.2.2.2.2.2.2.2.2.2.2.2.2.2.1, m.2.2.2.2.2.2.2.2.2.2.2.2.2.2.1, m.2.2.2.2.2.2.2.2.2.2.2.2.2.2.2.1, ())
   · rw [W8] at k1; injection k1 with k1; injection k1 with k1 _; subst k1; refine ⟨fun h => (by cases h), fun h => ?_⟩; rcases h.last with q | q
     · rw [z3.2 q] at W7; cases W7
     · rw [w3.2 q] at W8; cases W8
   · rw [W8] at k1; injection k1 with k1; injection k1 with k1 _; subst k1; exact ⟨fun _ => mk (.inr (w3.1 W8)), fun _ => rfl⟩
 · rw [W7] at k1; injection k1 with k1; injection k1 with k1 _; subst k1; exact ⟨fun _ => mk (.inl (z3.1 W7)), fun _ => rfl⟩
theorem sI.small {m : ey} (h : sI m) : zC m ≤ 5000 := by
 have h1 := cA _ h.items; have h2 := zk _ h.short; have h3 := h.texts; have h4 := h.ring.2.1; have h5 : m.2.2.2.2.2.2.2.2.2.2.2.2.2.2.2.1.length ≤ 20 := by
   rcases h.last with q | q
   · rw [show m.2.2.2.2.2.2.2.2.2.2.2.2.2.2.2.1 = [] from q.2.2.2.2.2]; exact Nat.zero_le _
   · exact q.2.2.2.2.2.1
 unfold zC; rw [uO D8 (fun _ => rfl), uO D8 (fun _ => rfl), uO D8 (fun _ => rfl)]; omega
def kT : aM → dz → aM
 | [], m => [m]
 | r :: xs, m => if r.1 < m.1 then r :: kT xs m else if r.1 = m.1 then r :: xs else m :: r :: xs
def JS (xs : aM) : Prop := xs.Pairwise fun a b => a.1 < b.1
def jO (xs : aM) (m : dz) : Nat := (xs.takeWhile fun r => decide (r.1 < m.1)).length
theorem Oz (xs : aM) (m : dz) : jO xs m ≤ xs.length := (List.takeWhile_sublist _).length_le
theorem yv (r : dz) (xs : aM) (m : dz) : jO (r :: xs) m = if r.1 < m.1 then jO xs m + 1 else 0 := by
 unfold jO; rw [List.takeWhile_cons]
 by_cases h : r.1 < m.1
 · simp [h]
 · simp [h]
theorem FD (m : dz) : (xs : aM) → kT xs m = if h : jO xs m < xs.length then (if xs[jO xs m].1 = m.1 then xs else xs.take (jO xs m) ++ ([m] ++ xs.drop (jO xs m))) else xs.take (jO xs m) ++ ([m] ++ xs.drop (jO xs m))
 | [] => rfl
 | r :: xs => by
   have ih := FD m xs; unfold kT
   by_cases h : r.1 < m.1
   · rw [if_pos h, ih]; have hp : jO (r :: xs) m = jO xs m + 1 := by rw [yv, if_pos h]
     by_cases h2 : jO xs m < xs.length
     · have h3 : jO (r :: xs) m < (r :: xs).length := by rw [hp, List.length_cons]; omega
       rw [dif_pos h2, dif_pos h3]; have e : (r :: xs)[jO (r :: xs) m] = xs[jO xs m] := by simp [hp]
       rw [e]
       by_cases h4 : xs[jO xs m].1 = m.1
       · rw [if_pos h4, if_pos h4]
       · rw [if_neg h4, if_neg h4, hp]; rfl
     · have h3 : ¬ jO (r :: xs) m < (r :: xs).length := by rw [hp, List.length_cons]; omega
       rw [dif_neg h2, dif_neg h3, hp]; rfl
   · rw [if_neg h]; have hp : jO (r :: xs) m = 0 := by rw [yv, if_neg h]
     have h3 : jO (r :: xs) m < (r :: xs).length := by rw [hp, List.length_cons]; omega
     rw [dif_pos h3]; have e : (r :: xs)[jO (r :: xs) m] = r := by simp [hp]
     rw [e, hp]; rfl
theorem MV {xs : aM} (h : gG xs xs.length) : JS xs := by
 have key : ∀ (d i : Nat) (hi : i + d + 1 < xs.length), xs[i].1 < xs[i + d + 1].1 := by
   intro d
   induction d with
   | zero => intro i hi; exact (h (i + 1) hi hi).2 (by omega)
   | succ d ih =>
     intro i hi; have h1 := ih i (by omega); have h2 := (h (i + (d + 1) + 1) hi hi).2 (by omega); have e : i + (d + 1) + 1 - 1 = i + d + 1 := by omega
     simp only [e] at h2; omega
 unfold JS; rw [List.pairwise_iff_getElem]; intro i j hi hj NX; have := key (j - i - 1) i (by omega); simpa [show i + (j - i - 1) + 1 = j by omega] using this
theorem MW {xs : aM} (h : JS xs) (hi : ∀ r ∈ xs, j5 r) : gG xs xs.length := by
 intro k hk _; refine ⟨hi _ (List.getElem_mem hk), fun h0 => ?_⟩; unfold JS at h; rw [List.pairwise_iff_getElem] at h; exact h (k - 1) k (by omega) hk (by omega)
theorem yw {xs : aM} (h : gG xs xs.length) : ∀ r ∈ xs, j5 r := by
 intro r hr; obtain ⟨k, hk, rfl⟩ := List.mem_iff_getElem.1 hr; exact (h k hk hk).1
theorem uw {r m : dz} : {xs : aM} → r ∈ kT xs m → r = m ∨ r ∈ xs
 | [], h => by
   unfold kT at h; exact .inl (List.mem_singleton.1 h)
 | x :: xs, h => by
   unfold kT at h
   split at h
   · rcases List.mem_cons.1 h with rfl | h
     · exact .inr List.mem_cons_self
     · exact (uw h).imp id (List.mem_cons_of_mem _)
   · split at h
     · exact .inr h
     · rcases List.mem_cons.1 h with rfl | h
       · exact .inl rfl
       · exact .inr h
theorem FE {m : dz} : {xs : aM} → JS xs → JS (kT xs m)
 | [], _ => by unfold kT JS; simp
 | x :: xs, h => by
   unfold JS at h; rw [List.pairwise_cons] at h; unfold kT
   split
   · rename_i bP; unfold JS; rw [List.pairwise_cons]; refine ⟨fun y hy => ?_, FE h.2⟩; rcases uw hy with rfl | hy
     · exact bP
     · exact h.1 y hy
   · split
     · unfold JS; rw [List.pairwise_cons]; exact h
     · unfold JS; rw [List.pairwise_cons, List.pairwise_cons]; refine ⟨fun y hy => ?_, h⟩; rcases List.mem_cons.1 hy with rfl | hy
       · omega
       · have := h.1 y hy; omega
theorem Bw {xs : aM} {m : dz} (h : gG xs xs.length) (hm : j5 m) : gG (kT xs m) (kT xs m).length :=
 MW (FE (MV h)) fun r hr => (uw hr).elim (fun e => e ▸ hm) (yw h r)
def kO (xs : aM) (m : dz) : aM := xs.filter fun r => decide (r.1 < m.1)
def pJ (xs : aM) (m : dz) : aM := xs.filter fun r => decide (m.1 < r.1)
def xO (xs : aM) (s : Int) : Bool := xs.any fun r => decide (r.1 = s)
theorem zm (m : dz) : (xs : aM) → JS xs → kT xs m = bif xO xs m.1 then xs else kO xs m ++ [m] ++ pJ xs m
 | [], _ => rfl
 | r :: xs, h => by
   unfold JS at h; rw [List.pairwise_cons] at h; have ih := zm m xs h.2; unfold kT
   by_cases h1 : r.1 < m.1
   · rw [if_pos h1, ih]; have e1 : xO (r :: xs) m.1 = xO xs m.1 := by unfold xO; rw [List.any_cons, ai (show ¬ r.1 = m.1 by omega)]; rfl
     have e2 : kO (r :: xs) m = r :: kO xs m := by unfold kO; rw [List.filter_cons, if_pos (ah h1)]
     have e3 : pJ (r :: xs) m = pJ xs m := by unfold pJ; rw [List.filter_cons, if_neg (by rw [decide_eq_true_eq]; omega)]
     rw [e1, e2, e3]
     cases xO xs m.1 <;> rfl
   · rw [if_neg h1]
     by_cases h2 : r.1 = m.1
     · have e1 : xO (r :: xs) m.1 = true := by unfold xO; rw [List.any_cons, ah h2]; rfl
       rw [if_pos h2, e1]; rfl
     · rw [if_neg h2]; have oU : ∀ y ∈ r :: xs, m.1 < y.1 := by
         intro y hy; rcases List.mem_cons.1 hy with rfl | hy
         · omega
         · have := h.1 y hy; omega
       have e1 : xO (r :: xs) m.1 = false := by
         unfold xO; rw [List.any_eq_false]; intro y hy; have := oU y hy; rw [decide_eq_true_eq]; omega
       have e2 : kO (r :: xs) m = [] := by
         unfold kO; rw [List.filter_eq_nil_iff]; intro y hy; have := oU y hy; rw [decide_eq_true_eq]; omega
       have e3 : pJ (r :: xs) m = r :: xs := by
         unfold pJ; rw [List.filter_eq_self]; intro y hy; exact ah (oU y hy)
       rw [e1, e2, e3]; rfl
theorem xP (xs : aM) (m : dz) (h : xs.length ≤ 1048576) (hi : qB xs = true) (hm : xN m = true) : gl xs m.1 m.2.1 m.2.2.1 m.2.2.2.1 = some (kT xs m, ()) := by
 obtain ⟨k1, _, k3⟩ := uq xs h; obtain ⟨q1, _, _⟩ := zL m; have hs := MV (k3.1 hi); have hlen : ∀ k, (kO (xs.take k) m).length ≤ k := fun k => Nat.le_trans (List.length_filter_le _ _) (by rw [List.length_take]; omega)
 have Ff : ∀ k, (pJ (xs.take k) m).length ≤ k := fun k => Nat.le_trans (List.length_filter_le _ _) (by rw [List.length_take]; omega)
 have l1 := qS (round := fR) (n := xs.length) (fun k => (xs, m.1, m.2.1, m.2.2.1, m.2.2.2.1, xs, kO (xs.take k) m, ((k : Nat) : Int), ())) (fun k => some (bif xO (xs.drop k) m.1 then .inr (xs, ()) else .inl (xs, m.1, m.2.1, m.2.2.1, m.2.2.2.1, kO xs m, ())))
   ⟨.inl (xs, m.1, m.2.1, m.2.2.1, m.2.2.2.1, kO xs m, ()), by simp only [fR, nh, aF, cond_false, List.take_length], by rw [List.drop_length]; rfl⟩ (fun k hk => by
     have e : xO (xs.drop k) m.1 = (decide (xs[k].1 = m.1) || xO (xs.drop (k + 1)) m.1) := by unfold xO; rw [List.drop_eq_getElem_cons hk, List.any_cons]
     have e2 : kO (xs.take (k + 1)) m = kO (xs.take k) m ++ (if decide (xs[k].1 < m.1) = true then [xs[k]] else []) := by
       unfold kO; rw [List.take_succ_eq_append_getElem hk, List.filter_append, List.filter_cons]
       split <;> rfl
     have hb : Nat.ble (((kO (xs.take k) m).length + 1) * 40) lim = true := aH (by have := hlen k; unfold lim; omega); simp only [fR, nh, az hk, aq, cond_true, aC, List.getElem?_eq_getElem hk, Option.bind_some, aJ (show k < 4611686018427387904 by omega), hb, e, e2]
     by_cases h1 : xs[k].1 = m.1
     · rw [ah h1]; exact .inl ⟨_, rfl, rfl⟩
     · rw [ai h1]; refine .inr ⟨?_, rfl⟩
       by_cases h2 : xs[k].1 < m.1
       · rw [ah h2]; rfl
       · rw [ai h2, if_neg (by decide), List.append_nil]; rfl) 0 (Nat.zero_le _)
 have l1 : aE fR (xs, m.1, m.2.1, m.2.2.1, m.2.2.2.1, xs, [], (0 : Int), ()) = _ := l1; rw [List.drop_zero] at l1; have l2 := ef (round := fa) (e := .inl (kO xs m ++ [m] ++ pJ xs m, ())) xs.length (fun k => (xs, m.1, m.2.1, m.2.2.1, m.2.2.2.1, kO xs m ++ [m] ++ pJ (xs.take k) m, ((k : Nat) : Int), ())) (by
   simp only [fa, ni, aF, cond_false, List.take_length]) (fun k hk => by
     have e2 : pJ (xs.take (k + 1)) m = pJ (xs.take k) m ++ (if decide (m.1 < xs[k].1) = true then [xs[k]] else []) := by
       unfold pJ; rw [List.take_succ_eq_append_getElem hk, List.filter_append, List.filter_cons]
       split <;> rfl
     have hb : Nat.ble (((kO xs m ++ [m] ++ pJ (xs.take k) m).length + 1) * 40) lim = true := aH (by
       have h1 := hlen xs.length; rw [List.take_length] at h1; have h2 := Ff k; simp only [List.length_append, List.length_cons, List.length_nil]; unfold lim; omega)
     simp only [fa, ni, az hk, aq, cond_true, aC, List.getElem?_eq_getElem hk, Option.bind_some, aJ (show k < 4611686018427387904 by omega), hb, e2]
     by_cases h2 : m.1 < xs[k].1
     · rw [ah h2, if_pos rfl, ← List.append_assoc]; rfl
     · rw [ai h2, if_neg (by decide), List.append_nil]; rfl)
 have l2 : aE fa (xs, m.1, m.2.1, m.2.2.1, m.2.2.2.1, kO xs m ++ [m] ++ pJ (xs.take 0) m, (0 : Int), ()) = _ := l2; rw [show pJ (xs.take 0) m = [] from rfl, List.append_nil] at l2; have Np : Nat.ble ((0 + xs.length) * 40) lim = true := aH (by unfold lim; omega); have Gv : Nat.ble (((kO xs m).length + 1) * 40) lim = true := aH (by
   have h1 := hlen xs.length; rw [List.take_length] at h1; unfold lim; omega)
 rw [zm m xs hs]; unfold gl; simp only [k1, q1, hi, hm, Np, cond_true, Bool.not_true, cond_false, Option.bind_some, List.nil_append, l1]
 cases xO xs m.1
 · have l3 : aE fa (xs, m.1, m.2.1, m.2.2.1, m.2.2.2.1, kO xs m ++ [(m.1, m.2.1, m.2.2.1, m.2.2.2.1, ())], (0 : Int), ()) = _ := l2; simp only [cond_false, cj, Option.bind_some, Gv, cond_true, l3]
 · rfl
theorem xQ (xs : aM) (m : dz) (h : xs.length ≤ 1048576) : lC xs m.1 m.2.1 m.2.2.1 m.2.2.2.1 = some (kT xs m, ()) := by
 have l1 := qS (round := fY) (n := xs.length) (fun k => (xs, m.1, m.2.1, m.2.2.1, m.2.2.2.1, ((k : Nat) : Int), ())) (fun k => some (.inl (xs, m.1, m.2.1, m.2.2.1, m.2.2.2.1, ((k + jO (xs.drop k) m : Nat) : Int), ())))
   ⟨.inl (xs, m.1, m.2.1, m.2.2.1, m.2.2.2.1, ((xs.length : Nat) : Int), ()), by simp only [fY, nN, aF, cond_false], by rw [List.drop_length]; rfl⟩ (fun k hk => by
     have e : jO (xs.drop k) m = if xs[k].1 < m.1 then jO (xs.drop (k + 1)) m + 1 else 0 := by rw [List.drop_eq_getElem_cons hk, yv]
     simp only [fY, nN, az hk, aq, cond_true, aC, mD hk, List.getElem?_eq_getElem hk, Option.bind_some, aJ (show k < 4611686018427387904 by omega), e]
     by_cases h1 : xs[k].1 < m.1
     · rw [ah h1, if_pos h1]; exact .inr ⟨rfl, by rw [show k + (jO (xs.drop (k + 1)) m + 1) = k + 1 + jO (xs.drop (k + 1)) m by omega]⟩
     · rw [ai h1, if_neg h1]; exact .inl ⟨_, rfl, rfl⟩) 0 (Nat.zero_le _)
 have l1 : aE fY (xs, m.1, m.2.1, m.2.2.1, m.2.2.2.1, (0 : Int), ()) = _ := l1; rw [List.drop_zero, Nat.zero_add] at l1; have hp := Oz xs m; have abe : Fy xs ((jO xs m : Nat) : Int) [(m.1, m.2.1, m.2.2.1, m.2.2.2.1, ())] = some (xs.take (jO xs m) ++ ([m] ++ xs.drop (jO xs m)), ()) := by
   unfold Fy; rw [aq, ah (show ((jO xs m : Nat) : Int) ≤ ((xs.length : Nat) : Int) by omega), aH (show (xs.length + 1) * 40 ≤ lim by unfold lim; omega)]; rfl
 rw [FD]; unfold lC; simp only [l1, cj, abe, Option.bind_some]
 by_cases h1 : jO xs m < xs.length
 · simp only [dif_pos h1, az h1, aq, aC, mD h1, cond_true, List.getElem?_eq_getElem h1, Option.bind_some]
   by_cases h2 : xs[jO xs m].1 = m.1
   · rw [ah h2, if_pos h2]; rfl
   · rw [ai h2, if_neg h2]; rfl
 · rw [dif_neg h1, ai (show ¬ ((jO xs m : Nat) : Int) < ((xs.length : Nat) : Int) by omega)]; rfl
noncomputable def MX (xs : aM) (m : dz) : aM := bif qB xs && xN m then kT xs m else xs
theorem DQ (xs : aM) (m : dz) (h : xs.length ≤ 1048576) : gl xs m.1 m.2.1 m.2.2.1 m.2.2.2.1 = some (MX xs m, ()) ∧ su xs m.1 m.2.1 m.2.2.1 m.2.2.2.1 = some (MX xs m, ()) := by
 obtain ⟨k1, k2, _⟩ := uq xs h; obtain ⟨q1, q2, _⟩ := zL m; have Np : Nat.ble ((0 + xs.length) * 40) lim = true := aH (by unfold lim; omega); unfold MX
 constructor
 · cases hi : qB xs
   · unfold gl; simp only [k1, hi, Np, cond_true, Option.bind_some]; rfl
   · cases hm : xN m
     · unfold gl; simp only [k1, q1, hi, hm, Np, cond_true, Option.bind_some]; rfl
     · exact xP xs m h hi hm
 · unfold su; simp only [k2, q2, zl xs h, Option.bind_some, xQ xs m h]
   cases qB xs <;> cases xN m <;> rfl
def oI (m : ey) (xs : aM) : ey := (m.1, m.2.1, m.2.2.1, xs, m.2.2.2.2)
noncomputable def Bx (m : ey) (x : dz) : ey := bif vg m then oI m (MX m.2.2.2.1 x) else m
theorem HI (m : ey) (x : dz) (h : zC m ≤ 1048576) : pe m.1 m.2.1 m.2.2.1 m.2.2.2.1 m.2.2.2.2.1 m.2.2.2.2.2.1 m.2.2.2.2.2.2.1 m.2.2.2.2.2.2.2.1 m.2.2.2.2.2.2.2.2.1 m.2.2.2.2.2.2.2.2.2.1 m.2.2.2.2.2.2.2.2.2.2.1 m.2.2.2.2.2.2.2.2.2.2.2.1 m.2.2.2.2.2.2.2.2.2.2.2.2.1 m.2.2.2.2.2.2.2.2.2.2.2.2.2.1 m.2.2.2.2.2.2.2.2.2.2.2.2.2.2.1 m.2.2.2.2.2.2.2.2.2.2.2.2.2.2.2.1 x.1 x.2.1 x.2.2.1 x.2.2.2.1 = some (Bx m x) ∧ Bk m.1 m.2.1 m.2.2.1 m.2.2.2.1 m.2.2.2.2.1 m.2.2.2.2.2.1 m.2.2.2.2.2.2.1 m.2.2.2.2.2.2.2.1 m.2.2.2.2.2.2.2.2.1 m.2.2.2.2.2.2.2.2.2.1 m.2.2.2.2.2.2.2.2.2.2.1 m.2.2.2.2.2.2.2.2.2.2.2.1 m.2.2.2.2.2.2.2.2.2.2.2.2.1 m.2.2.2.2.2.2.2.2.2.2.2.2.2.1 m.2.2.2.2.2.2.2.2.2.2.2.2.2.2.1 m.2.2.2.2.2.2.2.2.2.2.2.2.2.2.2.1 x.1 x.2.1 x.2.2.1 x.2.2.2.1 = some (Bx m x) := by
 obtain ⟨k1, k2, _⟩ := sJ m h; obtain ⟨p1, p2⟩ := kN m.1 m.2.1 m.2.2.1 m.2.2.2.1 m.2.2.2.2.1 m.2.2.2.2.2.1 m.2.2.2.2.2.2.1 m.2.2.2.2.2.2.2.1 m.2.2.2.2.2.2.2.2.1 m.2.2.2.2.2.2.2.2.2.1 m.2.2.2.2.2.2.2.2.2.2.1 m.2.2.2.2.2.2.2.2.2.2.2.1 m.2.2.2.2.2.2.2.2.2.2.2.2.1 m.2.2.2.2.2.2.2.2.2.2.2.2.2.1 m.2.2.2.2.2.2.2.2.2.2.2.2.2.2.1 m.2.2.2.2.2.2.2.2.2.2.2.2.2.2.2.1 h; have hl : m.2.2.2.1.length ≤ 1048576 := by unfold zC at h; omega
 obtain ⟨q1, q2⟩ := DQ m.2.2.2.1 x hl; unfold Bx
 constructor
 · unfold pe; simp only [p1, k1, q1, Option.bind_some]
   cases vg m <;> rfl
 · unfold Bk; simp only [p2, k2, q2, Option.bind_some]
   cases vg m <;> rfl
def qi (xs : aM) (s : Int) : dz := ((mw (cV xs s)).1, (mw (cV xs s)).2.1, (mw (cV xs s)).2.2.1, (mw (cV xs s)).2.2.2.1, ())
def fJ (xs : aM) (h : Int) (k : Nat) : aM := (List.range k).map fun j => qi xs (h + ((j + 1 : Nat) : Int))
theorem sK (xs : aM) (h : Int) (k : Nat) : (fJ xs h k).length = k := by simp [fJ]
theorem qj (xs : aM) (h : Int) (k : Nat) : fJ xs h (k + 1) = fJ xs h k ++ [qi xs (h + ((k + 1 : Nat) : Int))] := by
 unfold fJ; rw [List.range_succ, List.map_append]; rfl
def xR (xs : aM) (line s : Int) : Prop := (qi xs s).2.2.1 = 2 ∧ line < (qi xs s).1
theorem MY (m : ey) (h0 : zC m ≤ 1048576) : ∃ (k : Nat) (v : Int), oF m.1 m.2.1 m.2.2.1 m.2.2.2.1 m.2.2.2.2.1 m.2.2.2.2.2.1 m.2.2.2.2.2.2.1 m.2.2.2.2.2.2.2.1 m.2.2.2.2.2.2.2.2.1 m.2.2.2.2.2.2.2.2.2.1 m.2.2.2.2.2.2.2.2.2.2.1 m.2.2.2.2.2.2.2.2.2.2.2.1 m.2.2.2.2.2.2.2.2.2.2.2.2.1 m.2.2.2.2.2.2.2.2.2.2.2.2.2.1 m.2.2.2.2.2.2.2.2.2.2.2.2.2.2.1 m.2.2.2.2.2.2.2.2.2.2.2.2.2.2.2.1 = some (m.1, m.2.1, m.2.2.1, m.2.2.2.1, m.2.2.2.2.1, m.2.2.2.2.2.1, m.2.2.2.2.2.2.1, m.2.2.2.2.2.2.2.1, m.2.2.2.2.2.2.2.2.1, v, m.2.2.2.2.2.2.2.2.2.2.1, m.2.2.2.2.2.2.2.2.2.2.2.1, m.2.2.2.2.2.2.2.2.2.2.2.2.1, m.2.2.2.2.2.2.2.2.2.2.2.2.2.1, m.2.2.2.2.2.2.2.2.2.2.2.2.2.2.1, m.2.2.2.2.2.2.2.2.2.2.2.2.2.2.2.1, fJ m.2.2.2.1 m.2.2.2.2.2.2.2.2.2.1 k, ()) ∧ mf m.1 m.2.1 m.2.2.1 m.2.2.2.1 m.2.2.2.2.1 m.2.2.2.2.2.1 m.2.2.2.2.2.2.1 m.2.2.2.2.2.2.2.1 m.2.2.2.2.2.2.2.2.1 m.2.2.2.2.2.2.2.2.2.1 m.2.2.2.2.2.2.2.2.2.2.1 m.2.2.2.2.2.2.2.2.2.2.2.1 m.2.2.2.2.2.2.2.2.2.2.2.2.1 m.2.2.2.2.2.2.2.2.2.2.2.2.2.1 m.2.2.2.2.2.2.2.2.2.2.2.2.2.2.1 m.2.2.2.2.2.2.2.2.2.2.2.2.2.2.2.1 = some (m.1, m.2.1, m.2.2.1, m.2.2.2.1, m.2.2.2.2.1, m.2.2.2.2.2.1, m.2.2.2.2.2.2.1, m.2.2.2.2.2.2.2.1, m.2.2.2.2.2.2.2.2.1, v, m.2.2.2.2.2.2.2.2.2.2.1, m.2.2.2.2.2.2.2.2.2.2.2.1, m.2.2.2.2.2.2.2.2.2.2.2.2.1, m.2.2.2.2.2.2.2.2.2.2.2.2.2.1, m.2.2.2.2.2.2.2.2.2.2.2.2.2.2.1, m.2.2.2.2.2.2.2.2.2.2.2.2.2.2.2.1, fJ m.2.2.2.1 m.2.2.2.2.2.2.2.2.2.1 k, ()) ∧ v = m.2.2.2.2.2.2.2.2.2.1 + ((k : Nat) : Int) ∧
   (vg m = false → k = 0) ∧ (vg m = true → v ≤ ((cG m.2.2.2.1 : Nat) : Int) ∧ (∀ j, j < k → ¬ xR m.2.2.2.1 m.2.2.2.2.2.2.2.2.1 (m.2.2.2.2.2.2.2.2.2.1 + ((j + 1 : Nat) : Int))) ∧ (v < ((cG m.2.2.2.1 : Nat) : Int) → xR m.2.2.2.1 m.2.2.2.2.2.2.2.2.1 (m.2.2.2.2.2.2.2.2.2.1 + ((k + 1 : Nat) : Int)))) := by
 obtain ⟨k1, k2, k3⟩ := sJ m h0; obtain ⟨p1, p2⟩ := kN m.1 m.2.1 m.2.2.1 m.2.2.2.1 m.2.2.2.2.1 m.2.2.2.2.2.1 m.2.2.2.2.2.2.1 m.2.2.2.2.2.2.2.1 m.2.2.2.2.2.2.2.2.1 m.2.2.2.2.2.2.2.2.2.1 m.2.2.2.2.2.2.2.2.2.2.1 m.2.2.2.2.2.2.2.2.2.2.2.1 m.2.2.2.2.2.2.2.2.2.2.2.2.1 m.2.2.2.2.2.2.2.2.2.2.2.2.2.1 m.2.2.2.2.2.2.2.2.2.2.2.2.2.2.1 m.2.2.2.2.2.2.2.2.2.2.2.2.2.2.2.1 h0; unfold oF mf; simp only [k1, k2, p1, p2, Option.bind_some]
 cases hb : vg m
 · exact ⟨0, m.2.2.2.2.2.2.2.2.2.1, rfl, rfl, by omega, (fun _ => rfl), (fun h => by cases h)⟩
 have hm := k3.1 hb; have hit := cA m.2.2.2.1 hm.items; have hl : m.2.2.2.1.length ≤ 1048576 := by omega
 obtain ⟨a1, a2, a3⟩ := uu m.2.2.2.1 hl; have hh := hm.heard; generalize hn : cG m.2.2.2.1 = n at a1 a2 a3 hh; have agk : n ≤ 60 := Nat.le_trans a3.1 hit.1; obtain ⟨e, f, g1, g2, k, v, g3, g4, g5, g6, g7, g8⟩ : ∃ e f, aE ln (m.1, m.2.1, m.2.2.1, m.2.2.2.1, m.2.2.2.2.1, m.2.2.2.2.2.1, m.2.2.2.2.2.2.1, m.2.2.2.2.2.2.2.1, m.2.2.2.2.2.2.2.2.1, m.2.2.2.2.2.2.2.2.2.1, m.2.2.2.2.2.2.2.2.2.2.1, m.2.2.2.2.2.2.2.2.2.2.2.1, m.2.2.2.2.2.2.2.2.2.2.2.2.1, m.2.2.2.2.2.2.2.2.2.2.2.2.2.1, m.2.2.2.2.2.2.2.2.2.2.2.2.2.2.1, m.2.2.2.2.2.2.2.2.2.2.2.2.2.2.2.1, (0 : Int), (0 : Int), [], [], [], [], (0 : Int), (0 : Int), (0 : Int), (0 : Int), (0 : Int), (0 : Int), (0 : Int), (0 : Int), (0 : Int), [], m.1, m.2.1, m.2.2.1, m.2.2.2.1, m.2.2.2.2.1, m.2.2.2.2.2.1, m.2.2.2.2.2.2.1, m.2.2.2.2.2.2.2.1, m.2.2.2.2.2.2.2.2.1, m.2.2.2.2.2.2.2.2.2.1, m.2.2.2.2.2.2.2.2.2.2.1, m.2.2.2.2.2.2.2.2.2.2.2.1, m.2.2.2.2.2.2.2.2.2.2.2.2.1, m.2.2.2.2.2.2.2.2.2.2.2.2.2.1, m.2.2.2.2.2.2.2.2.2.2.2.2.2.2.1, m.2.2.2.2.2.2.2.2.2.2.2.2.2.2.2.1, [], ((n : Nat) : Int), ()) = some e ∧ aE lz (m.1, m.2.1, m.2.2.1, m.2.2.2.1, m.2.2.2.2.1, m.2.2.2.2.2.1, m.2.2.2.2.2.2.1, m.2.2.2.2.2.2.2.1, m.2.2.2.2.2.2.2.2.1, m.2.2.2.2.2.2.2.2.2.1, m.2.2.2.2.2.2.2.2.2.2.1, m.2.2.2.2.2.2.2.2.2.2.2.1, m.2.2.2.2.2.2.2.2.2.2.2.2.1, m.2.2.2.2.2.2.2.2.2.2.2.2.2.1, m.2.2.2.2.2.2.2.2.2.2.2.2.2.2.1, m.2.2.2.2.2.2.2.2.2.2.2.2.2.2.2.1, (0 : Int), (0 : Int), [], [], [], [], (0 : Int), (0 : Int), (0 : Int), (0 : Int), (0 : Int), (0 : Int), (0 : Int), (0 : Int), (0 : Int), [], m.1, m.2.1, m.2.2.1, m.2.2.2.1, m.2.2.2.2.1, m.2.2.2.2.2.1, m.2.2.2.2.2.2.1, m.2.2.2.2.2.2.2.1, m.2.2.2.2.2.2.2.2.1, m.2.2.2.2.2.2.2.2.2.1, m.2.2.2.2.2.2.2.2.2.2.1, m.2.2.2.2.2.2.2.2.2.2.2.1, m.2.2.2.2.2.2.2.2.2.2.2.2.1, m.2.2.2.2.2.2.2.2.2.2.2.2.2.1, m.2.2.2.2.2.2.2.2.2.2.2.2.2.2.1, m.2.2.2.2.2.2.2.2.2.2.2.2.2.2.2.1, [], ()) = some f ∧
     ∃ (k : Nat) (v : Int), (e = .inl ((0 : Int), (0 : Int), [], [], [], [], (0 : Int), (0 : Int), (0 : Int), (0 : Int), (0 : Int), (0 : Int), (0 : Int), (0 : Int), (0 : Int), [], m.1, m.2.1, m.2.2.1, m.2.2.2.1, m.2.2.2.2.1, m.2.2.2.2.2.1, m.2.2.2.2.2.2.1, m.2.2.2.2.2.2.2.1, m.2.2.2.2.2.2.2.2.1, v, m.2.2.2.2.2.2.2.2.2.2.1, m.2.2.2.2.2.2.2.2.2.2.2.1, m.2.2.2.2.2.2.2.2.2.2.2.2.1, m.2.2.2.2.2.2.2.2.2.2.2.2.2.1, m.2.2.2.2.2.2.2.2.2.2.2.2.2.2.1, m.2.2.2.2.2.2.2.2.2.2.2.2.2.2.2.1, fJ m.2.2.2.1 m.2.2.2.2.2.2.2.2.2.1 k, ()) ∨ e = .inr (m.1, m.2.1, m.2.2.1, m.2.2.2.1, m.2.2.2.2.1, m.2.2.2.2.2.1, m.2.2.2.2.2.2.1, m.2.2.2.2.2.2.2.1, m.2.2.2.2.2.2.2.2.1, v, m.2.2.2.2.2.2.2.2.2.2.1, m.2.2.2.2.2.2.2.2.2.2.2.1, m.2.2.2.2.2.2.2.2.2.2.2.2.1, m.2.2.2.2.2.2.2.2.2.2.2.2.2.1, m.2.2.2.2.2.2.2.2.2.2.2.2.2.2.1, m.2.2.2.2.2.2.2.2.2.2.2.2.2.2.2.1, fJ m.2.2.2.1 m.2.2.2.2.2.2.2.2.2.1 k, ())) ∧ f = .inl ((0 : Int), (0 : Int), [], [], [], [], (0 : Int), (0 : Int), (0 : Int), (0 : Int), (0 : Int), (0 : Int), (0 : Int), (0 : Int), (0 : Int), [], m.1, m.2.1, m.2.2.1, m.2.2.2.1, m.2.2.2.2.1, m.2.2.2.2.2.1, m.2.2.2.2.2.2.1, m.2.2.2.2.2.2.2.1, m.2.2.2.2.2.2.2.2.1, v, m.2.2.2.2.2.2.2.2.2.2.1, m.2.2.2.2.2.2.2.2.2.2.2.1, m.2.2.2.2.2.2.2.2.2.2.2.2.1, m.2.2.2.2.2.2.2.2.2.2.2.2.2.1, m.2.2.2.2.2.2.2.2.2.2.2.2.2.2.1, m.2.2.2.2.2.2.2.2.2.2.2.2.2.2.2.1, fJ m.2.2.2.1 m.2.2.2.2.2.2.2.2.2.1 k, ()) ∧ v = m.2.2.2.2.2.2.2.2.2.1 + ((k : Nat) : Int) ∧ v ≤ ((n : Nat) : Int) ∧
       (∀ j, j < k → ¬ xR m.2.2.2.1 m.2.2.2.2.2.2.2.2.1 (m.2.2.2.2.2.2.2.2.2.1 + ((j + 1 : Nat) : Int))) ∧ (v < ((n : Nat) : Int) → xR m.2.2.2.1 m.2.2.2.2.2.2.2.2.1 (m.2.2.2.2.2.2.2.2.2.1 + ((k + 1 : Nat) : Int))) := by
   refine mE 60 (fun k x y => ∃ v : Int, x = (m.1, m.2.1, m.2.2.1, m.2.2.2.1, m.2.2.2.2.1, m.2.2.2.2.2.1, m.2.2.2.2.2.2.1, m.2.2.2.2.2.2.2.1, m.2.2.2.2.2.2.2.2.1, m.2.2.2.2.2.2.2.2.2.1, m.2.2.2.2.2.2.2.2.2.2.1, m.2.2.2.2.2.2.2.2.2.2.2.1, m.2.2.2.2.2.2.2.2.2.2.2.2.1, m.2.2.2.2.2.2.2.2.2.2.2.2.2.1, m.2.2.2.2.2.2.2.2.2.2.2.2.2.2.1, m.2.2.2.2.2.2.2.2.2.2.2.2.2.2.2.1, (0 : Int), (0 : Int), [], [], [], [], (0 : Int), (0 : Int), (0 : Int), (0 : Int), (0 : Int), (0 : Int), (0 : Int), (0 : Int), (0 : Int), [], m.1, m.2.1, m.2.2.1, m.2.2.2.1, m.2.2.2.2.1, m.2.2.2.2.2.1, m.2.2.2.2.2.2.1, m.2.2.2.2.2.2.2.1, m.2.2.2.2.2.2.2.2.1, v, m.2.2.2.2.2.2.2.2.2.2.1, m.2.2.2.2.2.2.2.2.2.2.2.1, m.2.2.2.2.2.2.2.2.2.2.2.2.1, m.2.2.2.2.2.2.2.2.2.2.2.2.2.1, m.2.2.2.2.2.2.2.2.2.2.2.2.2.2.1, m.2.2.2.2.2.2.2.2.2.2.2.2.2.2.2.1, fJ m.2.2.2.1 m.2.2.2.2.2.2.2.2.2.1 k, ((n : Nat) : Int), ()) ∧ y = (m.1, m.2.1, m.2.2.1, m.2.2.2.1, m.2.2.2.2.1, m.2.2.2.2.2.1, m.2.2.2.2.2.2.1, m.2.2.2.2.2.2.2.1, m.2.2.2.2.2.2.2.2.1, m.2.2.2.2.2.2.2.2.2.1, m.2.2.2.2.2.2.2.2.2.2.1, m.2.2.2.2.2.2.2.2.2.2.2.1, m.2.2.2.2.2.2.2.2.2.2.2.2.1, m.2.2.2.2.2.2.2.2.2.2.2.2.2.1, m.2.2.2.2.2.2.2.2.2.2.2.2.2.2.1, m.2.2.2.2.2.2.2.2.2.2.2.2.2.2.2.1, (0 : Int), (0 : Int), [], [], [], [], (0 : Int), (0 : Int), (0 : Int), (0 : Int), (0 : Int), (0 : Int), (0 : Int), (0 : Int), (0 : Int), [], m.1, m.2.1, m.2.2.1, m.2.2.2.1, m.2.2.2.2.1, m.2.2.2.2.2.1, m.2.2.2.2.2.2.1, m.2.2.2.2.2.2.2.1, m.2.2.2.2.2.2.2.2.1, v, m.2.2.2.2.2.2.2.2.2.2.1, m.2.2.2.2.2.2.2.2.2.2.2.1, m.2.2.2.2.2.2.2.2.2.2.2.2.1, m.2.2.2.2.2.2.2.2.2.2.2.2.2.1, m.2.2.2.2.2.2.2.2.2.2.2.2.2.2.1, m.2.2.2.2.2.2.2.2.2.2.2.2.2.2.2.1, fJ m.2.2.2.1 m.2.2.2.2.2.2.2.2.2.1 k, ()) ∧ v = m.2.2.2.2.2.2.2.2.2.1 + ((k : Nat) : Int) ∧ v ≤ ((n : Nat) : Int) ∧ ∀ j, j < k → ¬ xR m.2.2.2.1 m.2.2.2.2.2.2.2.2.1 (m.2.2.2.2.2.2.2.2.2.1 + ((j + 1 : Nat) : Int))) _ ?_ ⟨m.2.2.2.2.2.2.2.2.2.1, rfl, rfl, by omega, hh.2, fun j h => by omega⟩
   rintro k x y hk ⟨v, rfl, rfl, q1, q2, q3⟩
   by_cases bP : v < ((n : Nat) : Int)
   · have hw : IntKind.i64.wrap (v + (1 : Int)) = m.2.2.2.2.2.2.2.2.2.1 + ((k + 1 : Nat) : Int) := by rw [eB] <;> omega
     have hbl : Nat.ble (((fJ m.2.2.2.1 m.2.2.2.2.2.2.2.2.2.1 k).length + 1) * 40) lim = true := aH (by rw [sK]; unfold lim; omega); have more : ¬ xR m.2.2.2.1 m.2.2.2.2.2.2.2.2.1 (m.2.2.2.2.2.2.2.2.2.1 + ((k + 1 : Nat) : Int)) → ∀ j, j < k + 1 → ¬ xR m.2.2.2.1 m.2.2.2.2.2.2.2.2.1 (m.2.2.2.2.2.2.2.2.2.1 + ((j + 1 : Nat) : Int)) := fun hnw j hj => by
       by_cases e : j < k
       · exact q3 j e
       · have : j = k := by omega
         subst this; exact hnw
     simp only [ln, rM, lz, sr, ah bP, a2, hw, qf m.2.2.2.1 _ hl, qg m.2.2.2.1 _ hl, Option.bind_some, cond_true, hbl]
     by_cases c1 : (mw (cV m.2.2.2.1 (m.2.2.2.2.2.2.2.2.2.1 + ((k + 1 : Nat) : Int)))).2.2.1 = 2
     · rw [ah c1]
       by_cases c2 : m.2.2.2.2.2.2.2.2.1 < (mw (cV m.2.2.2.1 (m.2.2.2.2.2.2.2.2.2.1 + ((k + 1 : Nat) : Int)))).1
       · rw [ah c2]; exact .inl ⟨_, _, rfl, rfl, k, v, .inr rfl, rfl, q1, q2, q3, fun _ => ⟨c1, c2⟩⟩
       · rw [ai c2]; exact .inr ⟨by omega, _, _, rfl, rfl, m.2.2.2.2.2.2.2.2.2.1 + ((k + 1 : Nat) : Int), by rw [qj]; rfl, by rw [qj]; rfl, rfl, by omega, more fun h => c2 h.2⟩
     · rw [ai c1]; exact .inr ⟨by omega, _, _, rfl, rfl, m.2.2.2.2.2.2.2.2.2.1 + ((k + 1 : Nat) : Int), by rw [qj]; rfl, by rw [qj]; rfl, rfl, by omega, more fun h => c1 h.1⟩
   · simp only [ln, rM, lz, sr, ai bP, a2, Option.bind_some, cond_false]; exact .inl ⟨_, _, rfl, rfl, k, v, .inl rfl, rfl, q1, q2, q3, fun h => absurd h bP⟩
 simp only [a1, Option.bind_some, Bool.not_true, cond_false]; rw [g1, g2, g4]; refine ⟨k, v, ?_, rfl, g5, (fun h => by cases h), (fun _ => ⟨by first | exact g6 | (rw [hn]; exact g6), g7, fun h => g8 (by first | exact h | (rw [hn] at h; exact h))⟩)⟩; rcases g3 with rfl | rfl
 · rfl
 · rfl
def MZ {A B C : Type} (P : A → Prop) : Sum A B → Sum A C → Prop
 | .inl a, .inl b => a = b ∧ P a
 | _, _ => False
theorem DR (b9 : Int) (ca : Int) (a6 : Int) (bS : Int) (bW : Int) (bK : List (Int × Unit)) (bC : Int) (bO : List (Int × Unit)) (aG : List (ByteArray × Unit)) (h0 : List.length bK ≤ 1048576) : ∃ o0 o1 o2 o3 o4 o5 o6, mS b9 ca a6 bS bW bK bC bO aG = some (o0, o1, o2, o3, o4, o5, o6, ()) ∧ jt b9 ca a6 bS bW bK bC bO aG = some (o0, o1, o2, o3, o4, o5, o6, ()) ∧ o5 = bK ∧ (List.length o6 + wl nO o6) ≤ 1048576 := by
 obtain ⟨b, k1, k2, k3⟩ := sG b9 ca a6 bS bW bK (by omega); obtain ⟨c1, c2⟩ := il b9 ca a6 bS bW bK (by omega); have hm : (if (3 : Int) < ((List.length aG : Nat) : Int) then (3 : Int) else ((List.length aG : Nat) : Int)) = ((min 3 aG.length : Nat) : Int) := by split <;> omega
 unfold mS jt; simp only [k1, k2, c1, c2, mT, oG, Option.bind_some]
 cases b
 · cases (decide (1 ≤ bC) && decide (bC ≤ 5))
   · exact ⟨_, _, _, _, _, bK, [], rfl, rfl, rfl, by decide⟩
   · exact ⟨_, _, _, _, _, bK, [], rfl, rfl, rfl, by decide⟩
 cases (decide (1 ≤ bC) && decide (bC ≤ 5))
 · exact ⟨_, _, _, _, _, bK, [], rfl, rfl, rfl, by decide⟩
 obtain ⟨z1, z2, z3, z4, z5, z6⟩ := k3 rfl; have NF : (aG.take (min 3 aG.length)).length = min 3 aG.length := by simp
 simp only [Bool.not_true, cond_false, hm, aC, aq, cond_true, List.drop_zero, NF, ah (show ((min 3 aG.length : Nat) : Int) ≤ ((List.length aG : Nat) : Int) by omega)]; obtain ⟨e, f, g1, g2, g3⟩ : ∃ e f, aE gT (bC, bO, aG, b9, ca, a6, bS, bW, bK, (0 : Int), (0 : Int), (0 : Int), (0 : Int), (0 : Int), [], b9, ca, a6, bS, bW, bK, [], (0 : Int), ()) = some e ∧
     aE cz (bC, bO, b9, ca, a6, bS, bW, bK, (0 : Int), (0 : Int), (0 : Int), (0 : Int), (0 : Int), [], b9, ca, a6, bS, bW, bK, [], aG.take (min 3 aG.length), ((min 3 aG.length : Nat) : Int), (0 : Int), ()) = some f ∧
     MZ (fun v => ∃ (q : Int) (l : aM), v = (b9, ca, a6, bS, bW, bK, (0 : Int), (0 : Int), (0 : Int), (0 : Int), (0 : Int), [], b9, ca, q, bS, bW, bK, l, ()) ∧ l.length ≤ 3 ∧ wl nO l ≤ 180) e f := by
   refine mE 3 (fun k x y => ∃ l : aM, x = (bC, bO, aG, b9, ca, a6, bS, bW, bK, (0 : Int), (0 : Int), (0 : Int), (0 : Int), (0 : Int), [], b9, ca, a6 + ((k : Nat) : Int), bS, bW, bK, l, ((k : Nat) : Int), ()) ∧
     y = (bC, bO, b9, ca, a6, bS, bW, bK, (0 : Int), (0 : Int), (0 : Int), (0 : Int), (0 : Int), [], b9, ca, a6 + ((k : Nat) : Int), bS, bW, bK, l, aG.take (min 3 aG.length), ((min 3 aG.length : Nat) : Int), ((k : Nat) : Int), ()) ∧ l.length = k ∧ wl nO l ≤ 60 * k) _ ?_ ⟨[], by rw [show a6 + ((0 : Nat) : Int) = a6 by omega]; rfl, by rw [show a6 + ((0 : Nat) : Int) = a6 by omega]; rfl, rfl, Nat.le_refl _⟩
   rintro k x y hk ⟨l, rfl, rfl, q1, q2⟩
   have stop : ∀ {A B : Type} (u : Sum _ A) (v : Sum _ B), u = .inl (b9, ca, a6, bS, bW, bK, (0 : Int), (0 : Int), (0 : Int), (0 : Int), (0 : Int), ([] : List (Int × Unit)), b9, ca, a6 + ((k : Nat) : Int), bS, bW, bK, l, ()) → v = .inl (b9, ca, a6, bS, bW, bK, (0 : Int), (0 : Int), (0 : Int), (0 : Int), (0 : Int), ([] : List (Int × Unit)), b9, ca, a6 + ((k : Nat) : Int), bS, bW, bK, l, ()) →
       MZ (fun v => ∃ (q : Int) (l : aM), v = (b9, ca, a6, bS, bW, bK, (0 : Int), (0 : Int), (0 : Int), (0 : Int), (0 : Int), ([] : List (Int × Unit)), b9, ca, q, bS, bW, bK, l, ()) ∧ l.length ≤ 3 ∧ wl nO l ≤ 180) u v := by
     intro A B u v e1 e2; subst e1 e2; exact ⟨rfl, _, l, rfl, by omega, by omega⟩
   by_cases h1 : k < aG.length
   · by_cases h4 : k < 3
     · have SA : k < min 3 aG.length := by omega
       have zv : (aG.take (min 3 aG.length))[k]? = some aG[k] := by rw [List.getElem?_take_of_lt SA]; exact List.getElem?_eq_getElem h1
       have e1 : IntKind.i64.wrap ((a6 + ((k : Nat) : Int)) + (1 : Int)) = a6 + ((k + 1 : Nat) : Int) := by rw [eB] <;> omega
       simp only [gT, lu, cz, eM, az h1, az SA, ah (show ((k : Nat) : Int) < (3 : Int) by omega), aq, cond_true, aC, List.getElem?_eq_getElem h1, zv, Option.bind_some, e1, aH (show (l.length + 1) * 40 ≤ lim by unfold lim; omega), aJ (show k < 4611686018427387904 by omega)]
       by_cases h5 : a6 + ((k : Nat) : Int) < 60
       · rw [ah h5, ai (show ¬ (60 : Int) ≤ a6 + ((k : Nat) : Int) by omega)]
         by_cases h6 : ((ByteArray.size aG[k].1 : Nat) : Int) ≤ 60
         · rw [ah h6, ai (show ¬ (60 : Int) < ((ByteArray.size aG[k].1 : Nat) : Int) by omega)]; have add : ∀ lv : Int, wl nO (l ++ [(a6 + ((k + 1 : Nat) : Int), bC, lv, aG[k].1, ())]) ≤ 60 * (k + 1) := by
             intro lv; rw [QU]; have : wl nO [(a6 + ((k + 1 : Nat) : Int), bC, lv, aG[k].1, ())] = ByteArray.size aG[k].1 := rfl; omega
           by_cases h7 : k < bO.length
           · rw [az h7]; simp only [cond_true, cond_false, List.getElem?_eq_getElem h7, Option.bind_some]
             cases decide (bO[k].1 = 2)
             · exact .inr ⟨h4, _, _, rfl, rfl, _, rfl, rfl, by simp [q1], add 1⟩
             · exact .inr ⟨h4, _, _, rfl, rfl, _, rfl, rfl, by simp [q1], add 2⟩
           · rw [ai (show ¬ ((k : Nat) : Int) < ((List.length bO : Nat) : Int) by omega)]; exact .inr ⟨h4, _, _, rfl, rfl, _, rfl, rfl, by simp [q1], add 1⟩
         · rw [ai h6, ah (show (60 : Int) < ((ByteArray.size aG[k].1 : Nat) : Int) by omega)]; exact .inl ⟨_, _, rfl, rfl, stop _ _ rfl rfl⟩
       · rw [ai h5, ah (show (60 : Int) ≤ a6 + ((k : Nat) : Int) by omega)]; exact .inl ⟨_, _, rfl, rfl, stop _ _ rfl rfl⟩
     · have Xt : k = 3 := by omega
       refine .inl ⟨_, _, ?_, ?_, stop _ _ rfl rfl⟩
       · simp only [gT, lu, az h1, ai (show ¬ ((k : Nat) : Int) < (3 : Int) by omega), cond_true, cond_false]
       · simp only [cz, eM, ai (show ¬ ((k : Nat) : Int) < ((min 3 aG.length : Nat) : Int) by omega), cond_false]
   · refine .inl ⟨_, _, ?_, ?_, stop _ _ rfl rfl⟩
     · simp only [gT, lu, ai (show ¬ ((k : Nat) : Int) < ((List.length aG : Nat) : Int) by omega), cond_false]
     · simp only [cz, eM, ai (show ¬ ((k : Nat) : Int) < ((min 3 aG.length : Nat) : Int) by omega), cond_false]
 rw [g1, g2]
 cases e with
 | inr e => exact g3.elim
 | inl e => cases f with
   | inr f => exact g3.elim
   | inl f =>
     obtain ⟨rfl, q, l, rfl, q1, q2⟩ := g3; simp only [iw]
     cases decide (bS = a6)
     · exact ⟨_, _, _, _, _, bK, l, rfl, rfl, rfl, by omega⟩
     · cases decide (bW = 0)
       · exact ⟨_, _, _, _, _, bK, l, rfl, rfl, rfl, by omega⟩
       · exact ⟨_, _, _, _, _, bK, l, rfl, rfl, rfl, by omega⟩
def uS (c2 from_ : Int) (level : List (Int × Unit)) (texts : List (ByteArray × Unit)) (j : Nat) : dz :=
 (c2 + ((j + 1 : Nat) : Int), from_, (bif decide (j < level.length) && decide ((level.getD j ((0 : Int), ())).1 = 2) then 2 else 1), (texts.getD j (ByteArray.empty, ())).1, ())
def cW (c2 from_ : Int) (level : List (Int × Unit)) (texts : List (ByteArray × Unit)) (m : Nat) : aM := (List.range m).map (uS c2 from_ level texts)
theorem ot (c2 from_ : Int) (level : List (Int × Unit)) (texts : List (ByteArray × Unit)) (m : Nat) : (cW c2 from_ level texts m).length = m := by simp [cW]
theorem Ca (c2 from_ : Int) (level : List (Int × Unit)) (texts : List (ByteArray × Unit)) (m : Nat) : cW c2 from_ level texts (m + 1) = cW c2 from_ level texts m ++ [uS c2 from_ level texts m] := by
 unfold cW; rw [List.range_succ, List.map_append]; rfl
def zN (c2 : Int) (texts : List (ByteArray × Unit)) (m : Nat) : Prop := m = min 3 texts.length ∨ 60 ≤ c2 + ((m : Nat) : Int) ∨ ∃ h : m < texts.length, 60 < ByteArray.size texts[m].1
theorem HJ (b9 : Int) (ca : Int) (a6 : Int) (bS : Int) (bW : Int) (bK : List (Int × Unit)) (bC : Int) (bO : List (Int × Unit)) (aG : List (ByteArray × Unit)) (h0 : List.length bK ≤ 1048576) (h3 : List.length aG ≤ 1048576) (hd : 1 ≤ bC ∧ bC ≤ 5) (ht : Sy b9 ca a6 bS bW bK) :
   ∃ m t3, jt b9 ca a6 bS bW bK bC bO aG = some (b9, ca, a6 + ((m : Nat) : Int), t3, bW, bK, cW a6 bC bO aG m, ()) ∧ m ≤ 3 ∧ m ≤ aG.length ∧ a6 + ((m : Nat) : Int) ≤ 60 ∧ (t3 = bS ∨ t3 = a6 + ((m : Nat) : Int)) ∧ zN a6 aG m ∧ t3 = (if bS = a6 ∧ bW = 0 then a6 + ((m : Nat) : Int) else bS) := by
 obtain ⟨b, _, k2, k3⟩ := CT b9 ca a6 bS bW bK h0; have hb := k3.2 ht; subst hb; obtain ⟨_, c2⟩ := il b9 ca a6 bS bW bK h0; obtain ⟨_, _, z2, z3, _⟩ := ht; have hm : (if (3 : Int) < ((List.length aG : Nat) : Int) then (3 : Int) else ((List.length aG : Nat) : Int)) = ((min 3 aG.length : Nat) : Int) := by split <;> omega
 have NF : (aG.take (min 3 aG.length)).length = min 3 aG.length := by simp
 unfold jt; simp only [k2, c2, oG, ah hd.1, ah hd.2, Bool.and_self, Option.bind_some, Bool.not_true, cond_false, hm, aC, aq, cond_true, List.drop_zero, NF, ah (show ((min 3 aG.length : Nat) : Int) ≤ ((List.length aG : Nat) : Int) by omega)]; have fin : ∀ (k : Nat), ∃ v : Int × Int × Int × Int × Int × (List (Int × Unit)) × Int × Int × Int × Int × Int × (List (Int × Unit)) × Int × Int × Int × Int × Int × (List (Int × Unit)) × aM × Unit, v = (b9, ca, a6, bS, bW, bK, (0 : Int), (0 : Int), (0 : Int), (0 : Int), (0 : Int), [], b9, ca, a6 + ((k : Nat) : Int), bS, bW, bK, cW a6 bC bO aG k, ()) := fun k => ⟨_, rfl⟩
 obtain ⟨e, g1, m, g2, g3, g4, g5, g6⟩ : ∃ e, aE cz (bC, bO, b9, ca, a6, bS, bW, bK, (0 : Int), (0 : Int), (0 : Int), (0 : Int), (0 : Int), [], b9, ca, a6, bS, bW, bK, [], aG.take (min 3 aG.length), ((min 3 aG.length : Nat) : Int), (0 : Int), ()) = some e ∧
     ∃ m : Nat, e = .inl (b9, ca, a6, bS, bW, bK, (0 : Int), (0 : Int), (0 : Int), (0 : Int), (0 : Int), [], b9, ca, a6 + ((m : Nat) : Int), bS, bW, bK, cW a6 bC bO aG m, ()) ∧ m ≤ 3 ∧ m ≤ aG.length ∧ a6 + ((m : Nat) : Int) ≤ 60 ∧ zN a6 aG m := by
   refine eg (min 3 aG.length) (fun k x => x = (bC, bO, b9, ca, a6, bS, bW, bK, (0 : Int), (0 : Int), (0 : Int), (0 : Int), (0 : Int), [], b9, ca, a6 + ((k : Nat) : Int), bS, bW, bK, cW a6 bC bO aG k, aG.take (min 3 aG.length), ((min 3 aG.length : Nat) : Int), ((k : Nat) : Int), ()) ∧ a6 + ((k : Nat) : Int) ≤ 60) _ ?_ ?_ ⟨by rw [show a6 + ((0 : Nat) : Int) = a6 by omega]; rfl, by omega⟩
   · rintro x ⟨rfl, q⟩
     exact ⟨_, by simp only [cz, eM, aF, cond_false], _, rfl, by omega, by omega, q, .inl rfl⟩
   · rintro k x SA ⟨rfl, q⟩
     have h1 : k < aG.length := by omega
     have zv : (aG.take (min 3 aG.length))[k]? = some aG[k] := by rw [List.getElem?_take_of_lt SA]; exact List.getElem?_eq_getElem h1
     have hgt : (aG.getD k (ByteArray.empty, ())).1 = aG[k].1 := by rw [List.getD_eq_getElem?_getD, List.getElem?_eq_getElem h1, Option.getD_some]
     have stop : zN a6 aG k → ∃ m : Nat, (.inl (b9, ca, a6, bS, bW, bK, (0 : Int), (0 : Int), (0 : Int), (0 : Int), (0 : Int), [], b9, ca, a6 + ((k : Nat) : Int), bS, bW, bK, cW a6 bC bO aG k, ()) : Sum _ Unit) = .inl (b9, ca, a6, bS, bW, bK, (0 : Int), (0 : Int), (0 : Int), (0 : Int), (0 : Int), ([] : List (Int × Unit)), b9, ca, a6 + ((m : Nat) : Int), bS, bW, bK, cW a6 bC bO aG m, ()) ∧ m ≤ 3 ∧ m ≤ aG.length ∧ a6 + ((m : Nat) : Int) ≤ 60 ∧ zN a6 aG m :=
       fun hq => ⟨k, rfl, by omega, by omega, q, hq⟩
     by_cases h5 : (60 : Int) ≤ a6 + ((k : Nat) : Int)
     · refine .inl ⟨_, ?_, stop (.inr (.inl h5))⟩; simp only [cz, eM, az SA, aq, cond_true, aC, zv, Option.bind_some, ah h5]
     have e1 : IntKind.i64.wrap ((a6 + ((k : Nat) : Int)) + (1 : Int)) = a6 + ((k + 1 : Nat) : Int) := by rw [eB] <;> omega
     by_cases h6 : (60 : Int) < ((ByteArray.size aG[k].1 : Nat) : Int)
     · refine .inl ⟨_, ?_, stop (.inr (.inr ⟨h1, by omega⟩))⟩; simp only [cz, eM, az SA, aq, cond_true, cond_false, aC, zv, Option.bind_some, ai h5, ah h6]
     refine .inr ⟨_, ?_, rfl, by omega⟩; have hlen := ot a6 bC bO aG k; simp only [cz, eM, az SA, aq, cond_true, cond_false, aC, zv, Option.bind_some, ai h5, ai h6, e1, hlen, aH (show (k + 1) * 40 ≤ lim by unfold lim; omega), aJ (show k < 4611686018427387904 by omega)]; rw [Ca]; unfold uS; rw [hgt]
     by_cases h7 : k < bO.length
     · have hgl : bO.getD k ((0 : Int), ()) = bO[k] := by rw [List.getD_eq_getElem?_getD, List.getElem?_eq_getElem h7, Option.getD_some]
       rw [az h7, ah h7, hgl]; simp only [cond_true, List.getElem?_eq_getElem h7, Option.bind_some, Bool.true_and]
       cases decide (bO[k].1 = 2) <;> rfl
     · rw [ai (show ¬ ((k : Nat) : Int) < ((List.length bO : Nat) : Int) by omega), ai h7]; rfl
 rw [g1]; subst g2; simp only [iw]
 by_cases w1 : bS = a6
 · rw [ah w1]
   by_cases w2 : bW = 0
   · rw [ah w2]; exact ⟨m, _, rfl, g3, g4, g5, .inr rfl, g6, by rw [if_pos ⟨w1, w2⟩]⟩
   · rw [ai w2]; exact ⟨m, _, rfl, g3, g4, g5, .inl rfl, g6, by rw [if_neg (fun h => w2 h.2)]⟩
 · rw [ai w1]; exact ⟨m, _, rfl, g3, g4, g5, .inl rfl, g6, by rw [if_neg (fun h => w1 h.1)]⟩
def zn (c2 c3 c4 d a : Int) : Int := if a < c3 then a else if c4 = d then (if c2 < a then c2 else a) else c3
def zo (c2 c3 c4 d a : Int) : Int := if a < c3 then d else if c4 = d then (if c2 ≤ a then 0 else c4) else c4
theorem M0 (c0 c1 c2 c3 c4 : Int) (xs : List (Int × Unit)) (d a : Int) (h : xs.length ≤ 1048576) {b : Bool} (hb : cf c0 c1 c2 c3 c4 xs = some (b, ())) :
   ∃ t3 t4, qW c0 c1 c2 c3 c4 xs d a = some (c0, c1, c2, t3, t4, xs, ()) ∧ q7 c0 c1 c2 c3 c4 xs d a = some (c0, c1, c2, t3, t4, xs, ()) ∧
     (b = false ∨ d < 1 ∨ 5 < d ∨ a < 0 → t3 = c3 ∧ t4 = c4) ∧ (b = true → 1 ≤ d → d ≤ 5 → 0 ≤ a → 0 ≤ c3 → c3 ≤ c2 → 0 ≤ t3 ∧ t3 ≤ c2 ∧ t3 ≤ a ∧ (t3 ≤ c3 ∨ c4 = d) ∧ (t4 = c4 ∨ t4 = d ∨ (t4 = 0 ∧ c4 = d))) ∧ (b = true → 1 ≤ d → d ≤ 5 → 0 ≤ a → t3 = zn c2 c3 c4 d a ∧ t4 = zo c2 c3 c4 d a) := by
 obtain ⟨b', h1, h2, _⟩ := sG c0 c1 c2 c3 c4 xs h; rw [hb] at h1; obtain rfl : b = b' := by injection h1 with h1; injection h1
 obtain ⟨h3, h4⟩ := il c0 c1 c2 c3 c4 xs h; unfold qW q7; simp only [Option.bind_some, hb, h2, h3, h4, mT, oG]
 cases b
 · have : ∀ t3 t4 : Int, t3 = c3 → t4 = c4 → (false = false ∨ d < 1 ∨ 5 < d ∨ a < 0 → t3 = c3 ∧ t4 = c4) ∧ (false = true → 1 ≤ d → d ≤ 5 → 0 ≤ a → 0 ≤ c3 → c3 ≤ c2 → 0 ≤ t3 ∧ t3 ≤ c2 ∧ t3 ≤ a ∧ (t3 ≤ c3 ∨ c4 = d) ∧ (t4 = c4 ∨ t4 = d ∨ (t4 = 0 ∧ c4 = d))) ∧ (false = true → 1 ≤ d → d ≤ 5 → 0 ≤ a → t3 = zn c2 c3 c4 d a ∧ t4 = zo c2 c3 c4 d a) :=
     fun t3 t4 e1 e2 => ⟨fun _ => ⟨e1, e2⟩, (fun h => by cases h), (fun h => by cases h)⟩
   cases (decide (1 ≤ d) && decide (d ≤ 5))
   · exact ⟨_, _, rfl, rfl, this _ _ rfl rfl⟩
   cases decide (a < 0)
   · exact ⟨_, _, rfl, rfl, this _ _ rfl rfl⟩
   · exact ⟨_, _, rfl, rfl, this _ _ rfl rfl⟩
 by_cases hd : 1 ≤ d ∧ d ≤ 5
 · rw [ah hd.1, ah hd.2]
   by_cases ha : a < 0
   · rw [ah ha]; exact ⟨_, _, rfl, rfl, (fun _ => ⟨rfl, rfl⟩), (fun _ _ _ h => by omega), (fun _ _ _ h => by omega)⟩
   rw [ai ha]; have no : ∀ {A : Prop}, (true = false ∨ d < 1 ∨ 5 < d ∨ a < 0) → A := by
     rintro A (h | h | h | h)
     · cases h
     · omega
     · omega
     · omega
   by_cases h5 : a < c3
   · rw [ah h5]; exact ⟨_, _, rfl, rfl, no, (fun _ _ _ _ _ _ => ⟨by omega, by omega, by omega, .inl (by omega), .inr (.inl rfl)⟩), fun _ _ _ _ => by unfold zn zo; rw [if_pos h5, if_pos h5]; exact ⟨rfl, rfl⟩⟩
   rw [ai h5]
   by_cases h6 : c4 = d
   · rw [ah h6]
     by_cases h7 : c2 < a
     · rw [ah h7, if_pos h7, ah (show c2 = c2 from rfl)]; exact ⟨_, _, rfl, rfl, no, (fun _ _ _ _ _ _ => ⟨by omega, by omega, by omega, .inr h6, .inr (.inr ⟨rfl, h6⟩)⟩), fun _ _ _ _ => by unfold zn zo; rw [if_neg h5, if_neg h5, if_pos h6, if_pos h6, if_pos h7, if_pos (by omega)]; exact ⟨rfl, rfl⟩⟩
     · rw [ai h7, if_neg h7]
       by_cases h8 : a = c2
       · rw [ah h8]; exact ⟨_, _, rfl, rfl, no, (fun _ _ _ _ _ _ => ⟨by omega, by omega, by omega, .inr h6, .inr (.inr ⟨rfl, h6⟩)⟩), fun _ _ _ _ => by unfold zn zo; rw [if_neg h5, if_neg h5, if_pos h6, if_pos h6, if_neg h7, if_pos (by omega)]; exact ⟨rfl, rfl⟩⟩
       · rw [ai h8]; exact ⟨_, _, rfl, rfl, no, (fun _ _ _ _ _ _ => ⟨by omega, by omega, by omega, .inr h6, .inl rfl⟩), fun _ _ _ _ => by unfold zn zo; rw [if_neg h5, if_neg h5, if_pos h6, if_pos h6, if_neg h7, if_neg (by omega)]; exact ⟨rfl, rfl⟩⟩
   · rw [ai h6]; exact ⟨_, _, rfl, rfl, no, (fun _ _ _ _ _ _ => ⟨by omega, by omega, by omega, .inl (by omega), .inl rfl⟩), fun _ _ _ _ => by unfold zn zo; rw [if_neg h5, if_neg h5, if_neg h6, if_neg h6]; exact ⟨rfl, rfl⟩⟩
 · have e : (decide (1 ≤ d) && decide (d ≤ 5)) = false := by
     cases hq : (decide (1 ≤ d) && decide (d ≤ 5))
     · rfl
     · rw [Bool.and_eq_true, decide_eq_true_eq, decide_eq_true_eq] at hq; exact absurd hq hd
   rw [e]; exact ⟨_, _, rfl, rfl, (fun _ => ⟨rfl, rfl⟩), (fun _ h1 h2 => absurd ⟨h1, h2⟩ hd), (fun _ h1 h2 => absurd ⟨h1, h2⟩ hd)⟩
theorem DS (d : Int) (xs : List (Int × Unit)) (h : xs.length ≤ 1048576) : dk xs d = some (decide (d ∈ aZ xs), ()) := by
 obtain ⟨e, he, hq⟩ := eg (round := bY) (x := (xs, d, ((0 : Nat) : Int), ())) xs.length (fun k x => x = (xs, d, ((k : Nat) : Int), ()) ∧ d ∉ aZ (xs.take k)) (fun e => (e = .inl () ∧ d ∉ aZ xs) ∨ (e = .inr (true, ()) ∧ d ∈ aZ xs)) (by
     rintro x ⟨rfl, g⟩
     rw [List.take_length] at g; exact ⟨.inl (), by simp only [bY, gz, aF, cond_false], .inl ⟨rfl, g⟩⟩) (by
     rintro k x hk ⟨rfl, g⟩
     simp only [bY, gz, az hk, aq, cond_true, aC, List.getElem?_eq_getElem hk, Option.bind_some, aJ (show k < 4611686018427387904 by omega)]
     by_cases e : xs[k].1 = d
     · rw [ah e]; exact .inl ⟨_, rfl, .inr ⟨rfl, by rw [← e]; exact List.mem_map_of_mem (List.getElem_mem hk)⟩⟩
     · rw [ai e]; refine .inr ⟨_, rfl, rfl, ?_⟩; rw [List.take_succ_eq_append_getElem hk]; unfold aZ at g ⊢; rw [List.map_append, List.mem_append]
       rintro (h1 | h1)
       · exact g h1
       · simp only [List.map_cons, List.map_nil, List.mem_singleton] at h1; exact e h1.symm) ⟨rfl, by simp [aZ]⟩
 have he : aE bY (xs, d, (0 : Int), ()) = some e := he; unfold dk; rw [he]; rcases hq with ⟨rfl, g⟩ | ⟨rfl, g⟩
 · rw [ai g]; rfl
 · rw [ah g]; rfl
theorem DT (d : Int) (xs : List (Int × Unit)) (h : xs.length ≤ 1048576) : dU xs d = some (decide (d ∈ aZ xs), ()) := by
 obtain ⟨b, h1, h2⟩ := vz d xs h; rw [DS d xs h] at h1; injection h1 with h1; injection h1 with h1 _; rw [h2, h1]
def hasB (list : aM) (s : Int) : Bool := (cV list s).isSome
theorem uz (o : Option dz) : (mw o).2.2.2.2.1 = o.isSome := by cases o <;> rfl
def DU {B C : Type} (list : aM) (u : Int) : Sum ((List (Int × Unit)) × Unit) B → Sum ((List (Int × Unit)) × Unit) C → Prop
 | .inl a, .inl b => a = b ∧ ∃ ms : List Int, a.1 = aN ms ∧ ms.length ≤ 20 ∧ ∀ s ∈ ms, 1 ≤ s ∧ s ≤ u ∧ hasB list s = false
 | _, _ => False
theorem xS (list : aM) (upto u : Int) (n : Nat) (h : list.length ≤ 1048576) (hn : n ≤ 1048576) (hu : (if (60 : Int) < upto then (60 : Int) else upto) = u) (agn : u ≤ 60) :
   ∃ e f, aE fc (list, u, [], ((n + 1 : Nat) : Int), ()) = some e ∧ aE fZ (list, upto, [], ((n + 1 : Nat) : Int), ()) = some f ∧ DU list u e f := by
 refine mE 61 (fun k x y => ∃ ms : List Int, x = (list, u, aN ms, ((n + 1 + k : Nat) : Int), ()) ∧ y = (list, upto, aN ms, ((n + 1 + k : Nat) : Int), ()) ∧ ms.length ≤ 20 ∧ ∀ s ∈ ms, 1 ≤ s ∧ s ≤ u ∧ hasB list s = false) (DU list u) ?_ ⟨[], rfl, rfl, by simp, fun s hs => by cases hs⟩
 rintro k x y hk ⟨ms, rfl, rfl, q1, q2⟩
 have stop : DU (B := Unit) (C := Unit) list u (.inl (aN ms, ())) (.inl (aN ms, ())) := ⟨rfl, ms, rfl, q1, q2⟩
 by_cases bP : ((n + 1 + k : Nat) : Int) ≤ u
 case neg =>
   refine .inl ⟨.inl (aN ms, ()), .inl (aN ms, ()), ?_, ?_, ⟨rfl, ms, rfl, q1, q2⟩⟩
   · simp only [fc, ke, ai bP, cond_false]
   · simp only [fZ, kg, hu, ai bP, cond_false]
 by_cases P1 : ((List.length (aN ms) : Nat) : Int) < 20
 case neg =>
   refine .inl ⟨.inl (aN ms, ()), .inl (aN ms, ()), ?_, ?_, ⟨rfl, ms, rfl, q1, q2⟩⟩
   · simp only [fc, ke, ah bP, ai P1, cond_true, cond_false]
   · simp only [fZ, kg, hu, ah bP, ai P1, cond_true, cond_false]
 have hl : (aN ms).length = ms.length := bJ ms; simp only [fc, ke, fZ, kg, hu, ah bP, ah P1, cond_true, qf list _ h, qg list _ h, Option.bind_some, uz, aH (show ((aN ms).length + 1) * 8 ≤ lim by unfold lim; omega), aJ (show n + 1 + k < 4611686018427387904 by omega)]
 cases hh : (cV list ((n + 1 + k : Nat) : Int)).isSome
 · refine .inr ⟨by omega, _, _, rfl, rfl, ms ++ [((n + 1 + k : Nat) : Int)], by simp [aN]; omega, by simp [aN]; omega, by simp; omega, fun s hs => ?_⟩; rcases List.mem_append.1 hs with hs | hs
   · exact q2 s hs
   · rw [List.mem_singleton] at hs; subst hs; exact ⟨by omega, by omega, hh⟩
 · exact .inr ⟨by omega, _, _, rfl, rfl, ms, by rw [show n + 1 + k + 1 = n + 1 + (k + 1) by omega], by rw [show n + 1 + k + 1 = n + 1 + (k + 1) by omega], q1, q2⟩
theorem FF (list : aM) (upto : Int) (h : list.length ≤ 1048576) : ∃ ms : List Int, lx list upto = some (aN ms, ()) ∧ lD list upto = some (aN ms, ()) ∧ ms.length ≤ 20 ∧ ∀ s ∈ ms, 1 ≤ s ∧ (s ≤ 60 ∧ s ≤ upto) ∧ hasB list s = false := by
 obtain ⟨n, a1, a2, a3, _⟩ := Bq list h; have hw : IntKind.i64.wrap (((n : Nat) : Int) + (1 : Int)) = ((n + 1 : Nat) : Int) := aJ (by omega); unfold lx lD; simp only [a1, a2, Option.bind_some, hw]
 by_cases hu : (60 : Int) < upto
 · obtain ⟨e, f, g1, g2, g3⟩ := xS list upto 60 n h (by omega) (if_pos hu) (by omega); rw [ah hu]; simp only [cond_true, g1, g2]
   cases e with
   | inr e => exact g3.elim
   | inl e => cases f with
     | inr f => exact g3.elim
     | inl f =>
       obtain ⟨rfl, ms, k1, k2, k3⟩ := g3; simp only [iw]; exact ⟨ms, by rw [k1], by rw [k1], k2, fun s hs => ⟨(k3 s hs).1, ⟨(k3 s hs).2.1, by have := (k3 s hs).2.1; omega⟩, (k3 s hs).2.2⟩⟩
 · obtain ⟨e, f, g1, g2, g3⟩ := xS list upto upto n h (by omega) (if_neg hu) (by omega); rw [ai hu]; simp only [cond_false, g1, g2]
   cases e with
   | inr e => exact g3.elim
   | inl e => cases f with
     | inr f => exact g3.elim
     | inl f =>
       obtain ⟨rfl, ms, k1, k2, k3⟩ := g3; simp only [iw]; exact ⟨ms, by rw [k1], by rw [k1], k2, fun s hs => ⟨(k3 s hs).1, ⟨by have := (k3 s hs).2.1; omega, (k3 s hs).2.1⟩, (k3 s hs).2.2⟩⟩
theorem By : ∀ (a b : List Int), a.Pairwise (· < ·) → b.Pairwise (· < ·) → (∀ x, x ∈ a ↔ x ∈ b) → a = b
 | [], [], _, _, _ => rfl
 | [], y :: b, _, _, h => absurd ((h y).2 List.mem_cons_self) (by simp)
 | x :: a, [], _, _, h => absurd ((h x).1 List.mem_cons_self) (by simp)
 | x :: a, y :: b, ha, hb, h => by
   rw [List.pairwise_cons] at ha hb; have hxy : x = y := by
     rcases List.mem_cons.1 ((h x).1 List.mem_cons_self) with e | e
     · exact e
     · have h1 := hb.1 x e; rcases List.mem_cons.1 ((h y).2 List.mem_cons_self) with e2 | e2
       · exact e2.symm
       · have h2 := ha.1 y e2; omega
   subst hxy
   congr 1
   refine By a b ha.2 hb.2 fun z => ⟨fun hz => ?_, fun hz => ?_⟩
   · rcases List.mem_cons.1 ((h z).1 (List.mem_cons_of_mem _ hz)) with e | e
     · have := ha.1 z hz; omega
     · exact e
   · rcases List.mem_cons.1 ((h z).2 (List.mem_cons_of_mem _ hz)) with e | e
     · have := hb.1 z hz; omega
     · exact e
theorem OA (l : List Int) : (l.mergeSort fun x y => decide (x ≤ y)).Pairwise (· ≤ ·) := by
 have := List.pairwise_mergeSort (le := fun x y : Int => decide (x ≤ y)) (fun a b c h1 h2 => by simp only [decide_eq_true_eq] at *; omega) (fun a b => by simp only [Bool.or_eq_true, decide_eq_true_eq]; omega) l; exact this.imp fun h => by simpa using h
theorem M1 (l : List Int) (x : Int) : x ∈ (l.mergeSort fun x y => decide (x ≤ y)) ↔ x ∈ l := (List.mergeSort_perm l _).mem_iff
theorem q9 (l : List Int) (j : Nat) (h : j < l.length) : l.toArray[j]! = l[j] := by
 rw [getElem!_pos l.toArray j (by simpa using h)]; simp
theorem Bz (l : List Int) (h : l.Pairwise (· ≤ ·)) : (Lib.compact l).Pairwise (· < ·) := by
 unfold Lib.compact Lib.compactUpTo; rw [List.pairwise_map]; have hr : ((List.range l.length).filter (Lib.keeps l.toArray)).Pairwise (· < ·) := List.Pairwise.filter _ List.pairwise_lt_range; refine hr.imp_of_mem fun {i j} hi hj NX => ?_
 obtain ⟨X0, _⟩ := List.mem_filter.1 hi; obtain ⟨Ns, Lq⟩ := List.mem_filter.1 hj; have X0 := List.mem_range.1 X0; have Ns := List.mem_range.1 Ns; have hk : l.toArray[j]! ≠ l.toArray[j - 1]! := by
   unfold Lib.keeps at Lq; rw [decide_eq_true_eq] at Lq; exact Lq.resolve_left (by omega)
 have hp := List.pairwise_iff_getElem.1 h; have h1 := hp (j - 1) j (by omega) Ns (by omega); rw [q9 l j Ns, q9 l (j - 1) (by omega)] at hk; rw [q9 l i X0, q9 l j Ns]
 by_cases e : i = j - 1
 · subst e; omega
 · have h2 := hp i (j - 1) X0 (by omega) (by omega); omega
theorem FG (l : List Int) (x : Int) : x ∈ Lib.compact l ↔ x ∈ l := by
 unfold Lib.compact Lib.compactUpTo; rw [List.mem_map]
 constructor
 · rintro ⟨j, hj, rfl⟩
   have Ns := List.mem_range.1 (List.mem_filter.1 hj).1; rw [q9 l j Ns]; exact List.getElem_mem Ns
 · intro hx; have key : ∀ j, j < l.length → ∃ i, i ∈ (List.range l.length).filter (Lib.keeps l.toArray) ∧ l.toArray[i]! = l.toArray[j]! := by
     intro j
     induction j with
     | zero => intro h0; exact ⟨0, List.mem_filter.2 ⟨List.mem_range.2 h0, by simp [Lib.keeps]⟩, rfl⟩
     | succ j ih =>
       intro hj
       by_cases e : l.toArray[j + 1]! = l.toArray[j]!
       · obtain ⟨i, h1, h2⟩ := ih (by omega); exact ⟨i, h1, by rw [h2, e]⟩
       · exact ⟨j + 1, List.mem_filter.2 ⟨List.mem_range.2 hj, by unfold Lib.keeps; rw [decide_eq_true_eq, Nat.add_sub_cancel]; exact .inr e⟩, rfl⟩
   obtain ⟨j, hj, rfl⟩ := List.mem_iff_getElem.1 hx; obtain ⟨i, h1, h2⟩ := key j hj; exact ⟨i, h1, by rw [h2, q9 l j hj]⟩
def ints (n : Nat) : List Int := (List.range n).map fun i => ((i + 1 : Nat) : Int)
theorem CX (n : Nat) : ints (n + 1) = ints n ++ [((n + 1 : Nat) : Int)] := by
 unfold ints; rw [List.range_succ, List.map_append]; rfl
theorem M3 (n : Nat) (x : Int) : x ∈ ints n ↔ 1 ≤ x ∧ x ≤ ((n : Nat) : Int) := by
 unfold ints; rw [List.mem_map]
 constructor
 · rintro ⟨i, hi, rfl⟩
   have := List.mem_range.1 hi; omega
 · rintro ⟨h1, h2⟩
   exact ⟨(x - 1).toNat, List.mem_range.2 (by omega), by omega⟩
theorem zp (n : Nat) : (ints n).Pairwise (· < ·) := by
 unfold ints; rw [List.pairwise_map]; exact List.pairwise_lt_range.imp fun h => by omega
theorem BA : ∀ (k d : Nat), ∃ r, ints (k + d) = ints k ++ r
 | k, 0 => ⟨[], by simp⟩
 | k, d + 1 => by
   obtain ⟨r, h⟩ := BA k d; exact ⟨r ++ [((k + d + 1 : Nat) : Int)], by rw [show k + (d + 1) = (k + d) + 1 by omega, CX, h, List.append_assoc]⟩
theorem HK (a b : List Int) : aN (a ++ b) = aN a ++ aN b := by simp [aN]
theorem FH (a : List Int) (n : Nat) : aN (a.take n) = (aN a).take n := by simp [aN, List.map_take]
theorem my (a : List Int) : aZ (aN a) = a := by simp [aZ, aN, Function.comp_def]
def fA (list : aM) (xs : List (Int × Unit)) (ms : List Int) (s : Int) : Bool := (!hasB list s && decide (s ∈ aZ xs)) || decide (s ∈ ms)
def iH (list : aM) (xs : List (Int × Unit)) (ms : List Int) : List Int := ((ints 60).filter (fA list xs ms)).take 20
abbrev P2 : Type := aM × Int × Int × Int × Int × Int × (List (Int × Unit)) × Int × Int × Int × Int × Int × (List (Int × Unit)) × Int × Int × Int × Int × Int × (List (Int × Unit)) × (List (Int × Unit)) × Int × Unit
theorem HL (t0 t1 t2 t3 t4 : Int) (xs : List (Int × Unit)) (list : aM) (ms : List Int) (h : list.length ≤ 1048576) (hx : xs.length ≤ 1048576) (hm : lx list t2 = some (aN ms, ())) (X2 : ms.length ≤ 20) :
   bT t0 t1 t2 t3 t4 xs list = some (t0, t1, t2, t3, t4, aN (iH list xs ms), ()) := by
 have NF : (aN ms).length ≤ 1048576 := by rw [bJ]; omega
 obtain ⟨e, he, rfl⟩ := eg (round := iL) (x := (list, t0, t1, t2, t3, t4, xs, (0 : Int), (0 : Int), (0 : Int), (0 : Int), (0 : Int), [], t0, t1, t2, t3, t4, [], aN ms, ((0 + 1 : Nat) : Int), ())) 60
   (fun k x => x = (list, t0, t1, t2, t3, t4, xs, (0 : Int), (0 : Int), (0 : Int), (0 : Int), (0 : Int), [], t0, t1, t2, t3, t4, aN ((ints k).filter (fA list xs ms)), aN ms, ((k + 1 : Nat) : Int), ()) ∧ ((ints k).filter (fA list xs ms)).length ≤ 20)
   (fun e => e = .inl ((0 : Int), (0 : Int), (0 : Int), (0 : Int), (0 : Int), [], t0, t1, t2, t3, t4, aN (iH list xs ms), ())) (by
     rintro x ⟨rfl, g⟩
     refine ⟨_, ?_, rfl⟩; simp only [iL, mo, ai (show ¬ ((60 + 1 : Nat) : Int) ≤ (60 : Int) by omega), cond_false]; unfold iH; rw [List.take_of_length_le g]) (by
     rintro k x hk ⟨rfl, g⟩
     have hle : ((k + 1 : Nat) : Int) ≤ (60 : Int) := by omega
     have hl := bJ ((ints k).filter (fA list xs ms))
     by_cases P1 : ((List.length (aN ((ints k).filter (fA list xs ms))) : Nat) : Int) < 20
     case neg =>
       refine .inl ⟨_, ?_, rfl⟩; simp only [iL, mo, ah hle, ai P1, cond_true, cond_false]; have : iH list xs ms = (ints k).filter (fA list xs ms) := by
         unfold iH; obtain ⟨r, hr⟩ := BA k (60 - k); rw [show k + (60 - k) = 60 by omega] at hr; rw [hr, List.filter_append]; exact List.take_left' (by omega)
       rw [this]
     have CY : (ints (k + 1)).filter (fA list xs ms) = (ints k).filter (fA list xs ms) ++ (if fA list xs ms ((k + 1 : Nat) : Int) then [((k + 1 : Nat) : Int)] else []) := by
       rw [CX, List.filter_append]; rw [List.filter_cons, List.filter_nil]
     have abg := DS ((k + 1 : Nat) : Int) xs hx; have W9 := DS ((k + 1 : Nat) : Int) (aN ms) NF; rw [my] at W9; have hb : Nat.ble (((aN ((ints k).filter (fA list xs ms))).length + 1) * 8) lim = true := aH (by unfold lim; omega); have hsw := aJ (show k + 1 < 4611686018427387904 by omega); simp only [iL, mo, ah hle, ah P1, cond_true, qf list _ h, Option.bind_some, uz, abg, W9, hb, hsw]; have yes : fA list xs ms ((k + 1 : Nat) : Int) = true → ∃ x' : P2, x' = (list, t0, t1, t2, t3, t4, xs, (0 : Int), (0 : Int), (0 : Int), (0 : Int), (0 : Int), [], t0, t1, t2, t3, t4, aN ((ints k).filter (fA list xs ms)) ++ [(((k + 1 : Nat) : Int), ())], aN ms, ((k + 1 + 1 : Nat) : Int), ()) ∧
         (x' = (list, t0, t1, t2, t3, t4, xs, (0 : Int), (0 : Int), (0 : Int), (0 : Int), (0 : Int), [], t0, t1, t2, t3, t4, aN ((ints (k + 1)).filter (fA list xs ms)), aN ms, ((k + 1 + 1 : Nat) : Int), ()) ∧ ((ints (k + 1)).filter (fA list xs ms)).length ≤ 20) := by
       intro hp; refine ⟨_, rfl, ?_, ?_⟩
       · rw [CY, hp, if_pos rfl, HK]; rfl
       · rw [CY, hp, if_pos rfl, List.length_append]; simp; omega
     have no : fA list xs ms ((k + 1 : Nat) : Int) = false → ∃ x' : P2, x' = (list, t0, t1, t2, t3, t4, xs, (0 : Int), (0 : Int), (0 : Int), (0 : Int), (0 : Int), [], t0, t1, t2, t3, t4, aN ((ints k).filter (fA list xs ms)), aN ms, ((k + 1 + 1 : Nat) : Int), ()) ∧
         (x' = (list, t0, t1, t2, t3, t4, xs, (0 : Int), (0 : Int), (0 : Int), (0 : Int), (0 : Int), [], t0, t1, t2, t3, t4, aN ((ints (k + 1)).filter (fA list xs ms)), aN ms, ((k + 1 + 1 : Nat) : Int), ()) ∧ ((ints (k + 1)).filter (fA list xs ms)).length ≤ 20) := by
       intro hp; refine ⟨_, rfl, ?_, ?_⟩
       · rw [CY, hp]; simp
       · rw [CY, hp]; simp; omega
     have DV : fA list xs ms ((k + 1 : Nat) : Int) = ((!(cV list ((k + 1 : Nat) : Int)).isSome && decide (((k + 1 : Nat) : Int) ∈ aZ xs)) || decide (((k + 1 : Nat) : Int) ∈ ms)) := rfl
     cases c1 : (cV list ((k + 1 : Nat) : Int)).isSome
     · cases c2 : decide (((k + 1 : Nat) : Int) ∈ aZ xs)
       · cases c3 : decide (((k + 1 : Nat) : Int) ∈ ms)
         · obtain ⟨x', g1, g2⟩ := no (by rw [DV, c1, c2, c3]; rfl); exact .inr ⟨x', by rw [g1]; rfl, g2⟩
         · obtain ⟨x', g1, g2⟩ := yes (by rw [DV, c1, c2, c3]; rfl); exact .inr ⟨x', by rw [g1]; rfl, g2⟩
       · obtain ⟨x', g1, g2⟩ := yes (by rw [DV, c1, c2]; rfl); exact .inr ⟨x', by rw [g1]; rfl, g2⟩
     · cases c3 : decide (((k + 1 : Nat) : Int) ∈ ms)
       · obtain ⟨x', g1, g2⟩ := no (by rw [DV, c1, c3]; rfl); exact .inr ⟨x', by rw [g1]; rfl, g2⟩
       · obtain ⟨x', g1, g2⟩ := yes (by rw [DV, c1, c3]; rfl); exact .inr ⟨x', by rw [g1]; rfl, g2⟩) ⟨rfl, by simp [ints]⟩
 unfold bT; rw [hm]; simp only [Option.bind_some]; rw [show (1 : Int) = ((0 + 1 : Nat) : Int) from rfl, he]; rfl
def nU (list : aM) (s : Int) : Bool := !hasB list s && (decide (1 ≤ s) && decide (s ≤ 60))
theorem HM (t0 t1 t2 t3 t4 : Int) (xs : List (Int × Unit)) (list : aM) (ms : List Int) (h : list.length ≤ 1048576) (hx : xs.length ≤ 1048576) (hm : lD list t2 = some (aN ms, ())) (X2 : ms.length ≤ 20) (hmp : ∀ s ∈ ms, 1 ≤ s ∧ s ≤ 60 ∧ hasB list s = false) :
   pA t0 t1 t2 t3 t4 xs list = some (t0, t1, t2, t3, t4, aN (iH list xs ms), ()) := by
 have ID := ef (round := iN) (e := .inl ((0 : Int), (0 : Int), (0 : Int), (0 : Int), (0 : Int), [], t0, t1, t2, t3, t4, xs, aN (ms ++ (aZ xs).filter (nU list)), ())) xs.length
   (fun k => (list, (0 : Int), (0 : Int), (0 : Int), (0 : Int), (0 : Int), [], t0, t1, t2, t3, t4, xs, aN (ms ++ (aZ (xs.take k)).filter (nU list)), xs, ((List.length xs : Nat) : Int), ((k : Nat) : Int), ())) (by
     simp only [iN, qA, aF, cond_false, List.take_length]) (fun k hk => by
     have hfl : ((aZ (xs.take k)).filter (nU list)).length ≤ 1048576 := by
       have h1 := List.length_filter_le (nU list) (aZ (xs.take k)); have h2 := gv (xs.take k); rw [List.length_take] at h2; omega
     have hl := bJ (ms ++ (aZ (xs.take k)).filter (nU list)); rw [List.length_append] at hl; have CY : (aZ (xs.take (k + 1))).filter (nU list) = (aZ (xs.take k)).filter (nU list) ++ (if nU list xs[k].1 then [xs[k].1] else []) := by
       rw [List.take_succ_eq_append_getElem hk]; unfold aZ; rw [List.map_append, List.filter_append, List.map_cons, List.map_nil, List.filter_cons, List.filter_nil]
     have DV : nU list xs[k].1 = (!(cV list xs[k].1).isSome && (decide (1 ≤ xs[k].1) && decide (xs[k].1 ≤ 60))) := rfl; simp only [iN, qA, az hk, aq, cond_true, aC, List.getElem?_eq_getElem hk, Option.bind_some, qg list _ h, uz, sF, aH (show ((aN (ms ++ (aZ (xs.take k)).filter (nU list))).length + 1) * 8 ≤ lim by unfold lim; omega), aJ (show k < 4611686018427387904 by omega), CY]
     cases c1 : (cV list xs[k].1).isSome
     · cases c2 : (decide (1 ≤ xs[k].1) && decide (xs[k].1 ≤ 60))
       · rw [DV, c1, c2]; simp
       · rw [DV, c1, c2]; simp [aN]
     · rw [DV, c1]; simp)
 have ID : aE iN (list, (0 : Int), (0 : Int), (0 : Int), (0 : Int), (0 : Int), [], t0, t1, t2, t3, t4, xs, aN (ms ++ (aZ (xs.take 0)).filter (nU list)), xs, ((List.length xs : Nat) : Int), (0 : Int), ()) = _ := ID; rw [show ms ++ (aZ (xs.take 0)).filter (nU list) = ms by simp [aZ]] at ID; have c2 : cw t0 t1 t2 t3 t4 xs = some (t0, t1, t2, t3, t4, xs, ()) := by
   unfold cw; rw [q8 xs hx]; rfl
 have hwl : (ms ++ (aZ xs).filter (nU list)).length ≤ 1048576 + 20 := by
   rw [List.length_append]; have h1 := List.length_filter_le (nU list) (aZ xs); have h2 := gv xs; omega
 generalize hW : ms ++ (aZ xs).filter (nU list) = W at *; have Xa : A6 (aN W) = some (aN (W.mergeSort fun x y => decide (x ≤ y)), ()) := by
   unfold A6; rw [aH (show (aN W).length ≤ lim by rw [bJ]; unfold lim; omega), my]; rfl
 have P3 : lj (aN (W.mergeSort fun x y => decide (x ≤ y))) = some (aN (Lib.compact (W.mergeSort fun x y => decide (x ≤ y))), ()) := by
   unfold lj; rw [aH (show (aN (W.mergeSort fun x y => decide (x ≤ y))).length ≤ lim by rw [bJ, List.length_mergeSort]; unfold lim; omega), my]; rfl
 have hC : Lib.compact (W.mergeSort fun x y => decide (x ≤ y)) = (ints 60).filter (fA list xs ms) := by
   refine By _ _ (Bz _ (OA W)) ((zp 60).filter _) fun z => ?_
   rw [FG, M1, ← hW, List.mem_append, List.mem_filter, List.mem_filter, M3]; unfold nU fA; simp only [Bool.and_eq_true, Bool.or_eq_true, decide_eq_true_eq, Bool.not_eq_true']
   constructor
   · rintro (h1 | ⟨h1, h2, h3, h4⟩)
     · exact ⟨⟨(hmp z h1).1, (hmp z h1).2.1⟩, .inr h1⟩
     · exact ⟨⟨h3, h4⟩, .inl ⟨h2, h1⟩⟩
   · rintro ⟨⟨h3, h4⟩, ⟨h2, h1⟩ | h1⟩
     · exact .inr ⟨h1, h2, h3, h4⟩
     · exact .inl h1
 rw [hC] at P3; have hCl : ((ints 60).filter (fA list xs ms)).length ≤ 60 := Nat.le_trans (List.length_filter_le _ _) (by simp [ints]); have abh : (if (20 : Int) < ((List.length (aN ((ints 60).filter (fA list xs ms))) : Nat) : Int) then (20 : Int) else ((List.length (aN ((ints 60).filter (fA list xs ms))) : Nat) : Int)) = ((min 20 ((ints 60).filter (fA list xs ms)).length : Nat) : Int) := by
   rw [bJ]
   split <;> omega
 have Xb : List.take (min 20 ((ints 60).filter (fA list xs ms)).length) (aN ((ints 60).filter (fA list xs ms))) = aN (iH list xs ms) := by
   unfold iH; rw [FH]
   by_cases P1 : 20 ≤ ((ints 60).filter (fA list xs ms)).length
   · rw [Nat.min_eq_left P1]
   · rw [Nat.min_eq_right (by omega), List.take_of_length_le (by rw [bJ]; omega), List.take_of_length_le (by rw [bJ]; omega)]
 have oQ := q8 (aN (iH list xs ms)) (by rw [bJ]; unfold iH; rw [List.length_take]; omega); unfold pA; rw [c2, hm]; simp only [Option.bind_some]; rw [ID]; simp only [iw, Xa, P3, Option.bind_some, abh, aq, cond_true, aC, List.drop_zero, Xb, oQ, ah (show ((min 20 ((ints 60).filter (fA list xs ms)).length : Nat) : Int) ≤ ((List.length (aN ((ints 60).filter (fA list xs ms))) : Nat) : Int) by rw [bJ]; omega)]
theorem IE {xs : aM} {s : Int} : hasB xs s = true ↔ ∃ r ∈ xs, r.1 = s := by
 unfold hasB cV; rw [List.find?_isSome]; simp only [decide_eq_true_eq]
theorem yx {r m : dz} : {xs : aM} → r ∈ xs → r ∈ kT xs m
 | [], h => by cases h
 | x :: xs, h => by
   unfold kT
   split
   · rcases List.mem_cons.1 h with rfl | h
     · exact List.mem_cons_self
     · exact List.mem_cons_of_mem _ (yx h)
   · split
     · exact h
     · exact List.mem_cons_of_mem _ h
theorem FI {xs ys : aM} (hx : xs.length ≤ 1048576) (hy : ys.length ≤ 1048576) (h : ∀ r ∈ xs, ∃ q ∈ ys, q.1 = r.1) : cG xs ≤ cG ys := by
 obtain ⟨_, a1, _⟩ := (uu xs hx).2.2; obtain ⟨_, _, b2⟩ := (uu ys hy).2.2
 by_cases bP : cG ys < cG xs
 · have h1 := a1 _ bP; obtain ⟨r, hr, e⟩ := IE.1 h1; obtain ⟨q, hq, e2⟩ := h r hr; have : hasB ys ((cG ys + 1 : Nat) : Int) = true := IE.2 ⟨q, hq, e2.trans e⟩; unfold hasB at this; rw [b2] at this
   cases this
 · omega
def bk (xs : aM) (fs : aM) : aM := fs.foldl kT xs
theorem ou : (fs : aM) → {xs : aM} → gG xs xs.length → (∀ f ∈ fs, j5 f) → gG (bk xs fs) (bk xs fs).length
 | [], _, h, _ => h
 | f :: fs, _, h, hf => ou fs (Bw h (hf f List.mem_cons_self)) fun g hg => hf g (List.mem_cons_of_mem _ hg)
theorem zq {r : dz} : (fs : aM) → {xs : aM} → r ∈ xs → r ∈ bk xs fs
 | [], _, h => h
 | _ :: fs, _, h => zq fs (yx h)
theorem BB {r : dz} : (fs : aM) → {xs : aM} → r ∈ bk xs fs → r ∈ fs ∨ r ∈ xs
 | [], _, h => .inr h
 | f :: fs, xs, h => by
   rcases BB fs h with h | h
   · exact .inl (List.mem_cons_of_mem _ h)
   · rcases uw h with rfl | h
     · exact .inl List.mem_cons_self
     · exact .inr h
theorem HN {c2 d : Int} {lv : dA} {tx : List (ByteArray × Unit)} {k j : Nat} (hc : 0 ≤ c2 ∧ c2 + ((k : Nat) : Int) ≤ 60) (hd : 1 ≤ d ∧ d ≤ 5) (hk : k ≤ tx.length) (hs : gO tx tx.length) (hj : j < k) : j5 (uS c2 d lv tx j) := by
 have h1 : j < tx.length := by omega
 have hgt : (tx.getD j (ByteArray.empty, ())).1 = tx[j].1 := by rw [List.getD_eq_getElem?_getD, List.getElem?_eq_getElem h1, Option.getD_some]
 refine ⟨⟨?_, ?_⟩, hd, ?_, ?_⟩
 · show 1 ≤ c2 + ((j + 1 : Nat) : Int); omega
 · show c2 + ((j + 1 : Nat) : Int) ≤ 60; omega
 · show 1 ≤ (bif decide (j < lv.length) && decide ((lv.getD j ((0 : Int), ())).1 = 2) then (2 : Int) else 1) ∧ (bif decide (j < lv.length) && decide ((lv.getD j ((0 : Int), ())).1 = 2) then (2 : Int) else 1) ≤ 2
   cases decide (j < lv.length) && decide ((lv.getD j ((0 : Int), ())).1 = 2) <;> decide
 · show ByteArray.size (tx.getD j (ByteArray.empty, ())).1 ≤ 60; rw [hgt]; exact hs j h1 h1
theorem zr {c2 d : Int} {lv : dA} {tx : List (ByteArray × Unit)} {k : Nat} (hc : 0 ≤ c2 ∧ c2 + ((k : Nat) : Int) ≤ 60) (hd : 1 ≤ d ∧ d ≤ 5) (hk : k ≤ tx.length) (hs : gO tx tx.length) : ∀ f ∈ cW c2 d lv tx k, j5 f := by
 intro f hf; unfold cW at hf; obtain ⟨j, hj, rfl⟩ := List.mem_map.1 hf; exact HN hc hd hk hs (List.mem_range.1 hj)
def ra (t : kz) (xs : aM) : aM := xs.filter fun r => decide (r.1 ∈ aZ t.2.2.2.2.2.1)
theorem M4 (t : kz) (xs : aM) (h : xs.length ≤ 1048576) (hw : t.2.2.2.2.2.1.length ≤ 1048576) : qV t.1 t.2.1 t.2.2.1 t.2.2.2.1 t.2.2.2.2.1 t.2.2.2.2.2.1 xs = some (ra t xs, ()) ∧ qZ t.1 t.2.1 t.2.2.1 t.2.2.2.1 t.2.2.2.2.1 t.2.2.2.2.2.1 xs = some (ra t xs, ()) := by
 have hlen : ∀ k, ((xs.take k).filter fun r => decide (r.1 ∈ aZ t.2.2.2.2.2.1)).length ≤ k := fun k => Nat.le_trans (List.length_filter_le _ _) (List.length_take_le _ _)
 constructor
 · have hl := ef (round := jD) (e := .inl (ra t xs, ())) xs.length (fun k => (xs, t.1, t.2.1, t.2.2.1, t.2.2.2.1, t.2.2.2.2.1, t.2.2.2.2.2.1, (xs.take k).filter (fun r => decide (r.1 ∈ aZ t.2.2.2.2.2.1)), ((k : Nat) : Int), ())) (by
     simp only [jD, rY, aF, cond_false, List.take_length, ra]) (fun k hk => by
     have qC := hlen k; simp only [jD, rY, az hk, aq, cond_true, aC, List.getElem?_eq_getElem hk, Option.bind_some, DS _ _ hw, aH (show (((xs.take k).filter fun r => decide (r.1 ∈ aZ t.2.2.2.2.2.1)).length + 1) * 40 ≤ lim by unfold lim; omega), aJ (show k < 4611686018427387904 by omega)]; rw [List.take_succ_eq_append_getElem hk, List.filter_append]
     cases hp : decide (xs[k].1 ∈ aZ t.2.2.2.2.2.1)
     · rw [List.filter_cons_of_neg (by rw [hp]; simp)]; simp
     · rw [List.filter_cons_of_pos (by rw [hp])]; rfl)
   have hl : aE jD (xs, t.1, t.2.1, t.2.2.1, t.2.2.2.1, t.2.2.2.2.1, t.2.2.2.2.2.1, [], (0 : Int), ()) = _ := hl; unfold qV; rw [hl]; rfl
 · have hl := ef (round := jG) (e := .inl (ra t xs, ())) xs.length (fun k => (t.1, t.2.1, t.2.2.1, t.2.2.2.1, t.2.2.2.2.1, t.2.2.2.2.2.1, (xs.take k).filter (fun r => decide (r.1 ∈ aZ t.2.2.2.2.2.1)), xs, ((List.length xs : Nat) : Int), ((k : Nat) : Int), ())) (by
     simp only [jG, sv, aF, cond_false, List.take_length, ra]) (fun k hk => by
     have qC := hlen k; simp only [jG, sv, az hk, aq, cond_true, aC, List.getElem?_eq_getElem hk, Option.bind_some, DT _ _ hw, aH (show (((xs.take k).filter fun r => decide (r.1 ∈ aZ t.2.2.2.2.2.1)).length + 1) * 40 ≤ lim by unfold lim; omega), aJ (show k < 4611686018427387904 by omega)]; rw [List.take_succ_eq_append_getElem hk, List.filter_append]
     cases hp : decide (xs[k].1 ∈ aZ t.2.2.2.2.2.1)
     · rw [List.filter_cons_of_neg (by rw [hp]; simp)]; simp
     · rw [List.filter_cons_of_pos (by rw [hp])]; rfl)
   have hl : aE jG (t.1, t.2.1, t.2.2.1, t.2.2.2.1, t.2.2.2.2.1, t.2.2.2.2.2.1, [], xs, ((List.length xs : Nat) : Int), (0 : Int), ()) = _ := hl; unfold qZ; rw [hl]; rfl
theorem FJ {t : kz} {xs : aM} {r : dz} (h : r ∈ ra t xs) : r ∈ xs := (List.mem_filter.1 h).1
theorem FK (t : kz) (xs : aM) : (ra t xs).length ≤ xs.length := List.length_filter_le _ _
end Go.TM
