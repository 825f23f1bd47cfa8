/- Sizes, copies, sameness: what the laws' own helping functions answer. -/
import Derived.Test.YtiljcjnnhkidbaaDF2
namespace Go.TM
open Go
def D2 (_ : Int × Unit) : Nat := 0
def nJ (x : mX) : Nat := ByteArray.size x.2.2.2.1
def Tg (x : ByteArray × Unit) : Nat := ByteArray.size x.1
theorem mO (a b c : Int) : bk a b c = some (decide (b ≤ a) && decide (a ≤ c), ()) := by
 unfold bk
 cases decide (b ≤ a) <;> rfl
theorem sB (a b c : Int) : bu a b c = some (decide (b ≤ a) && decide (a ≤ c), ()) := by
 unfold bu
 cases decide (b ≤ a) <;> rfl
theorem oE (a : Int) : gC a = some (decide (1 ≤ a) && decide (a ≤ 5), ()) := by
 unfold gC; rw [sB]; rfl
def zF {A B : Type} : Sum A (Bool × Unit) → Sum B (Bool × Unit) → Prop
 | .inl _, .inl _ => True
 | .inr a, .inr b => a.1 = b.1
 | _, _ => False
theorem oF {k : Nat} (h0 : 0 < k) (h : k < 4611686018427387904) : IntKind.i64.wrap (((k : Nat) : Int) - (1 : Int)) = (((k - 1 : Nat)) : Int) := by
 rw [eA] <;> omega
theorem JG (c : Int) (xs : List (Int × Unit)) (h : xs.length ≤ 1048576) :
   ∃ e f, aE dJ (c, xs, (0 : Int), ()) = some e ∧ aE jm (c, xs, xs, ((List.length xs : Nat) : Int), (0 : Int), ()) = some f ∧ zF e f := by
 refine mz xs.length (fun k x y => x = (c, xs, ((k : Nat) : Int), ()) ∧ y = (c, xs, xs, ((List.length xs : Nat) : Int), ((k : Nat) : Int), ())) zF ?_ ⟨rfl, rfl⟩
 rintro k x y hk ⟨rfl, rfl⟩
 by_cases bP : k < xs.length
 · simp only [dJ, ji, jm, pv, az bP, aq, cond_true, aC, List.getElem?_eq_getElem bP, Option.bind_some, mO, oE, aJ (show k < 4611686018427387904 by omega)]
   cases (decide (1 ≤ xs[k].1) && decide (xs[k].1 ≤ 5))
   · exact .inl ⟨.inr (false, ()), .inr (false, ()), rfl, rfl, rfl⟩
   · by_cases h0 : 0 < k
     · have hp : k - 1 < xs.length := by omega
       rw [oF h0 (by omega)]; simp only [ah (show (0 : Int) < ((k : Nat) : Int) by omega), Bool.not_true, cond_false, cond_true, aq, aC, List.getElem?_eq_getElem hp, Option.bind_some]
       cases decide (xs[k].1 ≤ xs[k - 1].1)
       · exact .inr ⟨bP, _, _, rfl, rfl, rfl, rfl⟩
       · exact .inl ⟨.inr (false, ()), .inr (false, ()), rfl, rfl, rfl⟩
     · have : k = 0 := by omega
       subst this; simp only [ai (show ¬ (0 : Int) < ((0 : Nat) : Int) by omega), Bool.not_true, cond_false]; exact .inr ⟨bP, _, _, rfl, rfl, rfl, rfl⟩
 · have : k = xs.length := by omega
   subst this; exact .inl ⟨.inl (), .inl (), by simp only [dJ, ji, aF, cond_false], by simp only [jm, pv, aF, cond_false], trivial⟩
theorem CN (c : Int) (xs : List (Int × Unit)) (h : xs.length ≤ 1048576) : ∃ b, b8 c xs = some (b, ()) ∧ kG c xs = some (b, ()) ∧ (b = true → 1 ≤ xs.length ∧ xs.length ≤ 5) := by
 obtain ⟨e, f, h1, h2, h3⟩ := JG c xs h; unfold b8 kG; simp only [mO, sB, Option.bind_some, h1, h2]
 cases (decide (1 ≤ c) && decide (c ≤ 9))
 · exact ⟨false, rfl, rfl, fun h => by cases h⟩
 cases hb : (decide (1 ≤ ((List.length xs : Nat) : Int)) && decide (((List.length xs : Nat) : Int) ≤ 5))
 · exact ⟨false, rfl, rfl, fun h => by cases h⟩
 have hl : 1 ≤ xs.length ∧ xs.length ≤ 5 := by
   rw [Bool.and_eq_true, decide_eq_true_eq, decide_eq_true_eq] at hb; omega
 cases e with
 | inl e => cases f with
   | inl f => exact ⟨true, rfl, rfl, fun _ => hl⟩
   | inr f => exact h3.elim
 | inr e => cases f with
   | inl f => exact h3.elim
   | inr f => exact ⟨e.1, rfl, by rw [show e.1 = f.1 from h3]; rfl, fun _ => hl⟩
def PK (e : Sum Unit (Bool × Unit)) (f : Sum Unit (Int × Unit)) : Prop := ∃ b, (e = .inl () ∧ f = .inl () ∧ b = false) ∨ (e = .inr (true, ()) ∧ (∃ k : Nat, f = .inr (((k : Nat) : Int), ())) ∧ b = true)
theorem Oh (d : Int) (xs : List (Int × Unit)) (h : xs.length ≤ 1048576) :
   ∃ e f, aE bY (xs, d, (0 : Int), ()) = some e ∧ aE fe (xs, d, ((List.length xs : Nat) : Int), (0 : Int), ()) = some f ∧ PK e f := by
 refine mz xs.length (fun k x y => x = (xs, d, ((k : Nat) : Int), ()) ∧ y = (xs, d, ((List.length xs : Nat) : Int), ((k : Nat) : Int), ())) PK ?_ ⟨rfl, rfl⟩
 rintro k x y hk ⟨rfl, rfl⟩
 by_cases bP : k < xs.length
 · simp only [bY, gw, fe, jI, az bP, aq, cond_true, aC, List.getElem?_eq_getElem bP, Option.bind_some, aJ (show k < 4611686018427387904 by omega)]
   by_cases hd : xs[k].1 = d
   · rw [ah hd, ah hd.symm]; exact .inl ⟨.inr (true, ()), .inr (((k : Nat) : Int), ()), rfl, rfl, true, .inr ⟨rfl, ⟨k, rfl⟩, rfl⟩⟩
   · rw [ai hd, ai (fun e => hd e.symm)]; exact .inr ⟨bP, _, _, rfl, rfl, rfl, rfl⟩
 · have : k = xs.length := by omega
   subst this; exact .inl ⟨.inl (), .inl (), by simp only [bY, gw, aF, cond_false], by simp only [fe, jI, aF, cond_false], false, .inl ⟨rfl, rfl, rfl⟩⟩
theorem vo (d : Int) (xs : List (Int × Unit)) (h : xs.length ≤ 1048576) : ∃ b, dh xs d = some (b, ()) ∧ dR xs d = some (b, ()) := by
 obtain ⟨e, f, h1, h2, b, h3⟩ := Oh d xs h; unfold dh dR lZ; rw [h1, h2]; rcases h3 with ⟨rfl, rfl, rfl⟩ | ⟨rfl, ⟨k, rfl⟩, rfl⟩
 · exact ⟨false, rfl, rfl⟩
 · refine ⟨true, rfl, ?_⟩; simp only [cj, Option.bind_some, aq]
def MH (t : Int × Int × Int × Int × Int × (List (Int × Unit)) × Unit) : Sum Unit (Bool × Unit) → Sum (Int × Int × Int × Int × Int × (List (Int × Unit)) × Unit) (Bool × Unit) → Prop
 | .inl _, .inl z => z = t
 | .inr a, .inr b => a.1 = false ∧ b.1 = false
 | _, _ => False
theorem Hs (c0 c1 c2 c3 c4 : Int) (xs : List (Int × Unit)) (h : xs.length ≤ 1048576) :
   ∃ e f, aE db (c0, c1, c2, c3, c4, xs, (0 : Int), ()) = some e ∧ aE iD (c0, c1, c2, c3, c4, xs, xs, ((List.length xs : Nat) : Int), (0 : Int), ()) = some f ∧ MH (c0, c1, c2, c3, c4, xs, ()) e f := by
 refine mz xs.length (fun k x y => x = (c0, c1, c2, c3, c4, xs, ((k : Nat) : Int), ()) ∧ y = (c0, c1, c2, c3, c4, xs, xs, ((List.length xs : Nat) : Int), ((k : Nat) : Int), ())) (MH (c0, c1, c2, c3, c4, xs, ())) ?_ ⟨rfl, rfl⟩
 rintro k x y hk ⟨rfl, rfl⟩
 by_cases bP : k < xs.length
 · simp only [db, iy, iD, nG, az bP, aq, cond_true, aC, List.getElem?_eq_getElem bP, Option.bind_some, mO, sB, aJ (show k < 4611686018427387904 by omega)]
   cases (decide (1 ≤ xs[k].1) && decide (xs[k].1 ≤ c2))
   · exact .inl ⟨.inr (false, ()), .inr (false, ()), rfl, rfl, rfl, rfl⟩
   · by_cases h0 : 0 < k
     · have hp : k - 1 < xs.length := by omega
       rw [oF h0 (by omega)]; simp only [ah (show (0 : Int) < ((k : Nat) : Int) by omega), Bool.not_true, cond_false, cond_true, aq, aC, List.getElem?_eq_getElem hp, Option.bind_some]
       cases decide (xs[k].1 ≤ xs[k - 1].1)
       · exact .inr ⟨bP, _, _, rfl, rfl, rfl, rfl⟩
       · exact .inl ⟨.inr (false, ()), .inr (false, ()), rfl, rfl, rfl, rfl⟩
     · have : k = 0 := by omega
       subst this; simp only [ai (show ¬ (0 : Int) < ((0 : Nat) : Int) by omega), Bool.not_true, cond_false]; exact .inr ⟨bP, _, _, rfl, rfl, rfl, rfl⟩
 · have : k = xs.length := by omega
   subst this; exact .inl ⟨.inl (), .inl (c0, c1, c2, c3, c4, xs, ()), by simp only [db, iy, aF, cond_false], by simp only [iD, nG, aF, cond_false], rfl⟩
theorem sC (c0 c1 c2 c3 c4 : Int) (xs : List (Int × Unit)) (h : xs.length ≤ 1048576) : ∃ b, cf c0 c1 c2 c3 c4 xs = some (b, ()) ∧ eD c0 c1 c2 c3 c4 xs = some (b, ()) ∧ (b = true → 0 ≤ c2 ∧ c2 ≤ 60 ∧ 0 ≤ c3 ∧ c3 ≤ c2 ∧ xs.length ≤ 20 ∧ (∀ y ∈ [c0, c1], 1 ≤ y)) := by
 obtain ⟨e, f, h1, h2, h3⟩ := Hs c0 c1 c2 c3 c4 xs h; unfold cf eD; simp only [mO, sB, Option.bind_some, h1, h2]
 cases q0 : (decide (1 ≤ c0) && decide (c0 ≤ 9))
 · exact ⟨false, rfl, rfl, fun h => by cases h⟩
 cases q1 : (decide (1 ≤ c1) && decide (c1 ≤ 1000000000))
 · exact ⟨false, rfl, rfl, fun h => by cases h⟩
 cases q2 : (decide (0 ≤ c2) && decide (c2 ≤ 60))
 · exact ⟨false, rfl, rfl, fun h => by cases h⟩
 cases e with
 | inl e => cases f with
   | inl f =>
     have h3 : f = (c0, c1, c2, c3, c4, xs, ()) := h3; subst h3; simp only [cj, Option.bind_some, sB, Bool.not_true, cond_false]
     cases q3 : (decide (0 ≤ c3) && decide (c3 ≤ c2))
     · exact ⟨false, rfl, rfl, fun h => by cases h⟩
     cases (decide (0 ≤ c4) && decide (c4 ≤ 5))
     · exact ⟨false, rfl, rfl, fun h => by cases h⟩
     by_cases hl : ((List.length xs : Nat) : Int) ≤ 20
     · rw [ah hl, ai (show ¬ (20 : Int) < ((List.length xs : Nat) : Int) by omega)]; refine ⟨true, rfl, rfl, fun _ => ?_⟩; rw [Bool.and_eq_true, decide_eq_true_eq, decide_eq_true_eq] at q0 q1 q2 q3; refine ⟨q2.1, q2.2, q3.1, q3.2, by omega, fun y hy => ?_⟩; rcases List.mem_cons.1 hy with rfl | hy
       · exact q0.1
       · rcases List.mem_cons.1 hy with rfl | hy
         · exact q1.1
         · cases hy
     · rw [ai hl, ah (show (20 : Int) < ((List.length xs : Nat) : Int) by omega)]; exact ⟨false, rfl, rfl, fun h => by cases h⟩
   | inr f => exact h3.elim
 | inr e => cases f with
   | inl f => exact h3.elim
   | inr f =>
     obtain ⟨e1, e2⟩ := (show e.1 = false ∧ f.1 = false from h3); refine ⟨false, ?_, by rw [← e2]; rfl, fun h => by cases h⟩
     cases (decide (0 ≤ c3) && decide (c3 ≤ c2))
     · rfl
     cases (decide (0 ≤ c4) && decide (c4 ≤ 5))
     · rfl
     cases decide ((20 : Int) < ((List.length xs : Nat) : Int))
     · show some (e.1, ()) = some (false, ()); rw [e1]
     · rfl
theorem qY (xs : List (Int × Unit)) (h : xs.length ≤ 1048576) : ev xs = some (xs, ()) := by
 unfold ev; rw [aH (show (0 + xs.length) * 8 ≤ lim by unfold lim; omega)]; rfl
theorem ig (c0 c1 c2 c3 c4 : Int) (xs : List (Int × Unit)) (h : xs.length ≤ 1048576) : aw c0 c1 c2 c3 c4 xs = some (c0, c1, c2, c3, c4, xs, ()) ∧ cw c0 c1 c2 c3 c4 xs = some (c0, c1, c2, c3, c4, xs, ()) := by
 constructor
 · unfold aw; rw [aH (show (0 + xs.length) * 8 ≤ lim by unfold lim; omega)]; rfl
 · unfold cw; rw [qY xs h]; rfl
def sD (c2 : Int) (xs : List (Int × Unit)) (n : Nat) : Prop := ∀ k (h : k < xs.length), k < n → 1 ≤ xs[k].1 ∧ xs[k].1 ≤ c2 ∧ ∀ h0 : 0 < k, xs[k - 1].1 < xs[k].1
def Si (c0 c1 c2 c3 c4 : Int) (xs : List (Int × Unit)) : Prop := (1 ≤ c0 ∧ c0 ≤ 9) ∧ (1 ≤ c1 ∧ c1 ≤ 1000000000) ∧ (0 ≤ c2 ∧ c2 ≤ 60) ∧ (0 ≤ c3 ∧ c3 ≤ c2) ∧ (0 ≤ c4 ∧ c4 ≤ 5) ∧ xs.length ≤ 20 ∧ sD c2 xs xs.length
theorem CO (c0 c1 c2 c3 c4 : Int) (xs : List (Int × Unit)) (h : xs.length ≤ 1048576) : ∃ b, cf c0 c1 c2 c3 c4 xs = some (b, ()) ∧ eD c0 c1 c2 c3 c4 xs = some (b, ()) ∧ (b = true ↔ Si c0 c1 c2 c3 c4 xs) := by
 obtain ⟨b, h1, h2, _⟩ := sC c0 c1 c2 c3 c4 xs h; refine ⟨b, h1, h2, ?_⟩; obtain ⟨e, he, hq⟩ := ef (round := db) (x := (c0, c1, c2, c3, c4, xs, ((0 : Nat) : Int), ())) xs.length (fun k x => x = (c0, c1, c2, c3, c4, xs, ((k : Nat) : Int), ()) ∧ sD c2 xs k)
   (fun e => (e = .inl () ∧ sD c2 xs xs.length) ∨ (e = .inr (false, ()) ∧ ¬ sD c2 xs xs.length)) (by
     rintro x ⟨rfl, g⟩
     exact ⟨.inl (), by simp only [db, iy, aF, cond_false], .inl ⟨rfl, g⟩⟩) (by
     rintro k x bP ⟨rfl, g⟩
     simp only [db, iy, az bP, aq, cond_true, aC, List.getElem?_eq_getElem bP, Option.bind_some, mO, aJ (show k < 4611686018427387904 by omega)]; have more : 1 ≤ xs[k].1 → xs[k].1 ≤ c2 → (∀ h0 : 0 < k, xs[k - 1].1 < xs[k].1) → sD c2 xs (k + 1) := by
       intro w1 w2 w3 j hj FQ
       by_cases e : j < k
       · exact g j hj e
       · have : j = k := by omega
         subst this; exact ⟨w1, w2, w3⟩
     cases z8 : (decide (1 ≤ xs[k].1) && decide (xs[k].1 ≤ c2))
     · refine .inl ⟨.inr (false, ()), rfl, .inr ⟨rfl, fun hn => ?_⟩⟩; obtain ⟨w1, w2, _⟩ := hn k bP bP; rw [ah w1, ah w2] at z8
       cases z8
     · rw [Bool.and_eq_true, decide_eq_true_eq, decide_eq_true_eq] at z8
       by_cases h0 : 0 < k
       · have hp : k - 1 < xs.length := by omega
         rw [oF h0 (by omega)]; simp only [ah (show (0 : Int) < ((k : Nat) : Int) by omega), Bool.not_true, cond_false, cond_true, aq, aC, List.getElem?_eq_getElem hp, Option.bind_some]
         by_cases hd : xs[k].1 ≤ xs[k - 1].1
         · rw [ah hd]; refine .inl ⟨.inr (false, ()), rfl, .inr ⟨rfl, fun hn => ?_⟩⟩; have := (hn k bP bP).2.2 h0; omega
         · rw [ai hd]; exact .inr ⟨_, rfl, rfl, more z8.1 z8.2 (fun _ => by omega)⟩
       · have : k = 0 := by omega
         subst this; simp only [ai (show ¬ (0 : Int) < ((0 : Nat) : Int) by omega), Bool.not_true, cond_false]; exact .inr ⟨_, rfl, rfl, more z8.1 z8.2 (fun h0 => absurd h0 (Nat.lt_irrefl 0))⟩) ⟨rfl, fun j _ h => by omega⟩
 have he : aE db (c0, c1, c2, c3, c4, xs, (0 : Int), ()) = some e := he; unfold cf at h1; simp only [mO, Option.bind_some, he] at h1; have no : ∀ {p : Prop}, (some (false, ()) : Option (Bool × Unit)) = some (b, ()) → ¬ p → (b = true ↔ p) := by
   intro p e1 hp; injection e1 with e1; injection e1 with e1; subst e1; exact ⟨(fun h => by cases h), fun h => absurd h hp⟩
 have yes : ∀ {p : Prop}, (some (true, ()) : Option (Bool × Unit)) = some (b, ()) → p → (b = true ↔ p) := by
   intro p e1 hp; injection e1 with e1; injection e1 with e1; subst e1; exact ⟨fun _ => hp, fun _ => rfl⟩
 by_cases q0 : 1 ≤ c0 ∧ c0 ≤ 9
 case neg =>
   rw [show (decide (1 ≤ c0) && decide (c0 ≤ 9)) = false by rw [Bool.and_eq_false_iff, decide_eq_false_iff_not, decide_eq_false_iff_not]; omega] at h1; exact no h1 (fun h => q0 h.1)
 rw [ah q0.1, ah q0.2] at h1
 by_cases q1 : 1 ≤ c1 ∧ c1 ≤ 1000000000
 case neg =>
   rw [show (decide (1 ≤ c1) && decide (c1 ≤ 1000000000)) = false by rw [Bool.and_eq_false_iff, decide_eq_false_iff_not, decide_eq_false_iff_not]; omega] at h1; exact no h1 (fun h => q1 h.2.1)
 rw [ah q1.1, ah q1.2] at h1
 by_cases q2 : 0 ≤ c2 ∧ c2 ≤ 60
 case neg =>
   rw [show (decide (0 ≤ c2) && decide (c2 ≤ 60)) = false by rw [Bool.and_eq_false_iff, decide_eq_false_iff_not, decide_eq_false_iff_not]; omega] at h1; exact no h1 (fun h => q2 h.2.2.1)
 rw [ah q2.1, ah q2.2] at h1
 by_cases q3 : 0 ≤ c3 ∧ c3 ≤ c2
 case neg =>
   rw [show (decide (0 ≤ c3) && decide (c3 ≤ c2)) = false by rw [Bool.and_eq_false_iff, decide_eq_false_iff_not, decide_eq_false_iff_not]; omega] at h1; exact no h1 (fun h => q3 h.2.2.2.1)
 rw [ah q3.1, ah q3.2] at h1
 by_cases q4 : 0 ≤ c4 ∧ c4 ≤ 5
 case neg =>
   rw [show (decide (0 ≤ c4) && decide (c4 ≤ 5)) = false by rw [Bool.and_eq_false_iff, decide_eq_false_iff_not, decide_eq_false_iff_not]; omega] at h1; exact no h1 (fun h => q4 h.2.2.2.2.1)
 rw [ah q4.1, ah q4.2] at h1
 by_cases q5 : (20 : Int) < ((List.length xs : Nat) : Int)
 · rw [ah q5] at h1; exact no h1 (fun h => by have := h.2.2.2.2.2.1; omega)
 rw [ai q5] at h1; rcases hq with ⟨rfl, q⟩ | ⟨rfl, q⟩
 · exact yes h1 ⟨q0, q1, q2, q3, q4, by omega, q⟩
 · exact no h1 (fun h => q h.2.2.2.2.2.2)
theorem xH (a : Int) : jA a = some (decide (1 ≤ a) && decide (a ≤ 2), ()) := by
 unfold jA
 by_cases h1 : a = 1
 · subst h1; rfl
 by_cases h2 : a = 2
 · subst h2; rfl
 have e : (decide (1 ≤ a) && decide (a ≤ 2)) = false := by
   rw [Bool.and_eq_false_iff, decide_eq_false_iff_not, decide_eq_false_iff_not]; omega
 rw [e, ai h1, ai h2]; rfl
theorem JH (a b c : Int) (s : ByteArray) : ∃ x, gd a b c s = some (x, ()) ∧ gY a b c s = some (x, ()) := by
 unfold gd gY; simp only [mO, sB, oE, xH, Option.bind_some]
 cases (decide (1 ≤ a) && decide (a ≤ 60))
 · exact ⟨_, rfl, rfl⟩
 cases (decide (1 ≤ b) && decide (b ≤ 5))
 · exact ⟨_, rfl, rfl⟩
 cases (decide (1 ≤ c) && decide (c ≤ 2))
 · exact ⟨_, rfl, rfl⟩
 · exact ⟨_, rfl, rfl⟩
theorem Ht (xs : List (Int × Int × Int × ByteArray × Unit)) (h : xs.length ≤ 1048576) :
   ∃ e f, aE cZ (xs, (0 : Int), ()) = some e ∧ aE iC (xs, xs, ((List.length xs : Nat) : Int), (0 : Int), ()) = some f ∧ zF e f := by
 refine mz xs.length (fun k x y => x = (xs, ((k : Nat) : Int), ()) ∧ y = (xs, xs, ((List.length xs : Nat) : Int), ((k : Nat) : Int), ())) zF ?_ ⟨rfl, rfl⟩
 rintro k x y hk ⟨rfl, rfl⟩
 by_cases bP : k < xs.length
 · obtain ⟨b, r1, r2⟩ := JH xs[k].1 xs[k].2.1 xs[k].2.2.1 xs[k].2.2.2.1; simp only [cZ, iw, iC, nF, az bP, aq, cond_true, aC, List.getElem?_eq_getElem bP, Option.bind_some, r1, r2, aJ (show k < 4611686018427387904 by omega)]
   cases b
   · exact .inl ⟨.inr (false, ()), .inr (false, ()), rfl, rfl, rfl⟩
   · by_cases h0 : 0 < k
     · have hp : k - 1 < xs.length := by omega
       rw [oF h0 (by omega)]; simp only [ah (show (0 : Int) < ((k : Nat) : Int) by omega), Bool.not_true, cond_false, cond_true, aq, aC, List.getElem?_eq_getElem hp, Option.bind_some]
       cases decide (xs[k].1 ≤ xs[k - 1].1)
       · exact .inr ⟨bP, _, _, rfl, rfl, rfl, rfl⟩
       · exact .inl ⟨.inr (false, ()), .inr (false, ()), rfl, rfl, rfl⟩
     · have : k = 0 := by omega
       subst this; simp only [ai (show ¬ (0 : Int) < ((0 : Nat) : Int) by omega), Bool.not_true, cond_false]; exact .inr ⟨bP, _, _, rfl, rfl, rfl, rfl⟩
 · have : k = xs.length := by omega
   subst this; exact .inl ⟨.inl (), .inl (), by simp only [cZ, iw, aF, cond_false], by simp only [iC, nF, aF, cond_false], trivial⟩
theorem Bj (xs : List (Int × Int × Int × ByteArray × Unit)) (h : xs.length ≤ 1048576) : ∃ b, fm xs = some (b, ()) ∧ ic xs = some (b, ()) := by
 obtain ⟨e, f, h1, h2, h3⟩ := Ht xs h; unfold fm ic; rw [h1, h2]
 cases e with
 | inl e => cases f with
   | inl f => exact ⟨true, rfl, rfl⟩
   | inr f => exact h3.elim
 | inr e => cases f with
   | inl f => exact h3.elim
   | inr f => exact ⟨e.1, rfl, by rw [show e.1 = f.1 from h3]; rfl⟩
abbrev dx : Type := Int × Int × Int × ByteArray × Unit
abbrev aM : Type := List dx
def cT (xs : aM) (s : Int) : Option dx := xs.find? fun r => decide (r.1 = s)
def mi : Option dx → Int × Int × Int × ByteArray × Bool × Unit
 | none => (0, 0, 0, ByteArray.empty, false, ())
 | some r => (r.1, r.2.1, r.2.2.1, r.2.2.2.1, true, ())
def Is : Option dx → Sum (Int × Int × Int × ByteArray × Unit) (Int × Int × Int × ByteArray × Bool × Unit)
 | none => .inl (0, 0, 0, ByteArray.empty, ())
 | some r => .inr (mi (some r))
theorem CP (xs : aM) (s : Int) {k : Nat} (hk : k < xs.length) : cT (xs.drop k) s = if xs[k].1 = s then some xs[k] else cT (xs.drop (k + 1)) s := by
 unfold cT; rw [List.drop_eq_getElem_cons hk, List.find?_cons]
 by_cases h : xs[k].1 = s
 · rw [ah h, if_pos h]
 · rw [ai h, if_neg h]
theorem qe (xs : aM) (s : Int) (h : xs.length ≤ 1048576) : jk xs s = some (mi (cT xs s)) := by
 have hl := qP (round := gQ) (n := xs.length) (fun k => (xs, s, (0 : Int), (0 : Int), (0 : Int), ByteArray.empty, ((k : Nat) : Int), ())) (fun k => some (Is (cT (xs.drop k) s)))
   ⟨.inl (0, 0, 0, ByteArray.empty, ()), by simp only [gQ, pa, aF, cond_false], by rw [List.drop_length]; rfl⟩ (fun k hk => by
     rw [CP xs s hk]; simp only [gQ, pa, az hk, aq, cond_true, aC, List.getElem?_eq_getElem hk, Option.bind_some, aJ (show k < 4611686018427387904 by omega)]
     by_cases h : xs[k].1 = s
     · rw [ah h, if_pos h]; exact .inl ⟨_, rfl, rfl⟩
     · rw [ai h, if_neg h]; exact .inr ⟨rfl, rfl⟩) 0 (Nat.zero_le _)
 unfold jk; have hl : aE gQ (xs, s, (0 : Int), (0 : Int), (0 : Int), ByteArray.empty, (0 : Int), ()) = _ := hl; rw [hl, List.drop_zero]
 cases cT xs s <;> rfl
theorem qf (xs : aM) (s : Int) (h : xs.length ≤ 1048576) : jn xs s = some (mi (cT xs s)) := by
 have hl := qP (round := gU) (n := xs.length) (fun k => (s, (0 : Int), (0 : Int), (0 : Int), ByteArray.empty, xs, ((List.length xs : Nat) : Int), ((k : Nat) : Int), ())) (fun k => some (Is (cT (xs.drop k) s)))
   ⟨.inl (0, 0, 0, ByteArray.empty, ()), by simp only [gU, pw, aF, cond_false], by rw [List.drop_length]; rfl⟩ (fun k hk => by
     rw [CP xs s hk]; simp only [gU, pw, az hk, aq, cond_true, aC, List.getElem?_eq_getElem hk, Option.bind_some, aJ (show k < 4611686018427387904 by omega)]
     by_cases h : xs[k].1 = s
     · rw [ah h, if_pos h]; exact .inl ⟨_, rfl, rfl⟩
     · rw [ai h, if_neg h]; exact .inr ⟨rfl, rfl⟩) 0 (Nat.zero_le _)
 unfold jn; have hl : aE gU (s, (0 : Int), (0 : Int), (0 : Int), ByteArray.empty, xs, ((List.length xs : Nat) : Int), (0 : Int), ()) = _ := hl; rw [hl, List.drop_zero]
 cases cT xs s <;> rfl
theorem zf : (n : Nat) → (ys : List Int) → (∀ i, i < n → ((i + 1 : Nat) : Int) ∈ ys) → n ≤ ys.length
 | 0, _, _ => Nat.zero_le _
 | n + 1, ys, h => by
   have hm := h n (by omega); have := zf n (ys.erase ((n + 1 : Nat) : Int)) (fun i hi => (List.mem_erase_of_ne (by omega)).2 (h i (by omega))); rw [List.length_erase_of_mem hm] at this; have : 0 < ys.length := List.length_pos_of_mem hm; omega
theorem Bk {xs : aM} {s : Int} {r : dx} (h : cT xs s = some r) : r ∈ xs ∧ r.1 = s := by
 unfold cT at h; exact ⟨List.mem_of_find?_eq_some h, by have := List.find?_some h; simpa using this⟩
def It (xs : aM) (n : Nat) : Prop := n ≤ xs.length ∧ (∀ i, i < n → (cT xs ((i + 1 : Nat) : Int)).isSome = true) ∧ cT xs ((n + 1 : Nat) : Int) = none
theorem Oi {xs : aM} (h : ∀ i, i < xs.length → (cT xs ((i + 1 : Nat) : Int)).isSome = true) : cT xs ((xs.length + 1 : Nat) : Int) = none := by
 cases hq : cT xs ((xs.length + 1 : Nat) : Int) with
 | none => rfl
 | some r =>
   have key := zf (xs.length + 1) (xs.map (·.1)) (fun i hi => by
     have : ∃ r, cT xs ((i + 1 : Nat) : Int) = some r := by
       by_cases Nq : i < xs.length
       · exact Option.isSome_iff_exists.1 (h i Nq)
       · have : i = xs.length := by omega
         subst this; exact ⟨r, hq⟩
     obtain ⟨r', hr⟩ := this; obtain ⟨m1, m2⟩ := Bk hr; exact List.mem_map.2 ⟨r', m1, m2⟩)
   rw [List.length_map] at key; omega
theorem Bl (xs : aM) (h : xs.length ≤ 1048576) : ∃ n : Nat, eV xs = some (((n : Nat) : Int), ()) ∧ gD xs = some (((n : Nat) : Int), ()) ∧ It xs n := by
 obtain ⟨e, f, h1, h2, n, h3⟩ : ∃ e f, aE me (xs, (0 : Int), (0 : Int), ()) = some e ∧ aE mh (xs, (0 : Int), ()) = some f ∧ ∃ n : Nat, (e = .inl (((n : Nat) : Int), ()) ∨ e = .inr (((n : Nat) : Int), ())) ∧ f = .inr (((n : Nat) : Int), ()) ∧ It xs n := by
   refine mz xs.length (fun k x y => x = (xs, ((k : Nat) : Int), ((k : Nat) : Int), ()) ∧ y = (xs, ((k : Nat) : Int), ()) ∧ ∀ i, i < k → (cT xs ((i + 1 : Nat) : Int)).isSome = true) _ ?_ ⟨rfl, rfl, fun i hi => by omega⟩
   rintro k x y hk ⟨rfl, rfl, oS⟩
   simp only [me, vk, mh, vm, aJ (show k < 4611686018427387904 by omega), qe xs _ h, qf xs _ h, Option.bind_some]
   by_cases bP : k < xs.length
   · rw [az bP]
     cases hq : cT xs ((k + 1 : Nat) : Int) with
     | none => exact .inl ⟨.inr (((k : Nat) : Int), ()), .inr (((k : Nat) : Int), ()), rfl, rfl, k, .inr rfl, rfl, hk, oS, hq⟩
     | some r =>
       refine .inr ⟨bP, _, _, rfl, rfl, rfl, rfl, fun i hi => ?_⟩
       by_cases Nq : i < k
       · exact oS i Nq
       · have : i = k := by omega
         subst this; rw [hq]; rfl
   · have : k = xs.length := by omega
     subst this; have hq := Oi oS; rw [aF, hq]; exact .inl ⟨.inl (((xs.length : Nat) : Int), ()), .inr (((xs.length : Nat) : Int), ()), rfl, rfl, xs.length, .inl rfl, rfl, hk, oS, hq⟩
 obtain ⟨h3, rfl, h4⟩ := h3; unfold eV gD; rw [h1, h2]; refine ⟨n, ?_, rfl, h4⟩; rcases h3 with rfl | rfl <;> rfl
theorem DI (xs : List (Int × Unit)) (d : Int) (h : xs.length ≤ 1048576) : dh xs d = some (decide ((d, ()) ∈ xs), ()) := by
 have hl := qP (round := bY) (n := xs.length) (fun k => (xs, d, ((k : Nat) : Int), ())) (fun k => some (if (d, ()) ∈ xs.drop k then .inr (true, ()) else .inl ()))
   ⟨.inl (), by simp only [bY, gw, aF, cond_false], by rw [List.drop_length]; rfl⟩ (fun k hk => by
     rw [List.drop_eq_getElem_cons hk]; simp only [bY, gw, az hk, aq, cond_true, aC, List.getElem?_eq_getElem hk, Option.bind_some, aJ (show k < 4611686018427387904 by omega)]
     by_cases e : xs[k].1 = d
     · rw [ah e]; exact .inl ⟨_, rfl, by rw [if_pos (List.mem_cons.2 (.inl (by rw [← e])))]⟩
     · rw [ai e]; refine .inr ⟨rfl, ?_⟩; have : ((d, ()) ∈ xs[k] :: xs.drop (k + 1)) ↔ ((d, ()) ∈ xs.drop (k + 1)) := by
         rw [List.mem_cons]; exact ⟨fun h => h.resolve_left (fun q => e (by rw [← q])), .inr⟩
       by_cases q : (d, ()) ∈ xs.drop (k + 1)
       · rw [if_pos q, if_pos (this.2 q)]
       · rw [if_neg q, if_neg (fun z => q (this.1 z))]) 0 (Nat.zero_le _)
 unfold dh; have hl : aE bY (xs, d, (0 : Int), ()) = _ := hl; rw [hl, List.drop_zero]
 by_cases q : (d, ()) ∈ xs
 · rw [if_pos q, ah q]; rfl
 · rw [if_neg q, ai q]; rfl
def sR (l : List (Int × Unit)) (n : Nat) : Prop := ∀ j (h : j < l.length), j < n → (decide (1 ≤ l[j].1) && decide (l[j].1 ≤ 2)) = true
def gM (l : List (ByteArray × Unit)) (n : Nat) : Prop := ∀ j (h : j < l.length), j < n → ByteArray.size l[j].1 ≤ 60
def MI (lv : List (Int × Unit)) (tx : List (ByteArray × Unit)) : Sum (List (Int × Unit) × List (ByteArray × Unit) × Unit) (Bool × Unit) → Prop
 | .inl y => y = (lv, tx, ()) ∧ sR lv (min lv.length tx.length) ∧ gM tx (min lv.length tx.length)
 | .inr b => b.1 = false ∧ ¬ (sR lv (min lv.length tx.length) ∧ gM tx (min lv.length tx.length))
theorem Bm (lv : List (Int × Unit)) (tx : List (ByteArray × Unit)) (h1 : lv.length ≤ 1048576) (h2 : tx.length ≤ 1048576) : ∃ b, mc lv tx = some (b, ()) ∧ (b = true ↔ tx.length ≤ 20 ∧ lv.length = tx.length ∧ sR lv lv.length ∧ gM tx tx.length) := by
 obtain ⟨e, he, hq⟩ := ef (round := fy) (x := (lv, tx, ((0 : Nat) : Int), ())) (min lv.length tx.length) (fun k x => x = (lv, tx, ((k : Nat) : Int), ()) ∧ sR lv k ∧ gM tx k) (MI lv tx) (by
     rintro x ⟨rfl, g1, g2⟩
     refine ⟨.inl (lv, tx, ()), ?_, rfl, g1, g2⟩
     by_cases hb : min lv.length tx.length < tx.length
     · have e : min lv.length tx.length = lv.length := by omega
       simp only [fy, ju, az hb, cond_true]; rw [e, aF]; rfl
     · have e : min lv.length tx.length = tx.length := by omega
       simp only [fy, ju]; rw [e, aF]; rfl) (by
     rintro k x hk ⟨rfl, g1, g2⟩
     have hl : k < lv.length := by omega
     have ht : k < tx.length := by omega
     simp only [fy, ju, az hl, az ht, aq, cond_true, aC, List.getElem?_eq_getElem hl, List.getElem?_eq_getElem ht, Option.bind_some, mO, aJ (show k < 4611686018427387904 by omega)]
     cases WT : (decide (1 ≤ lv[k].1) && decide (lv[k].1 ≤ 2))
     · refine .inl ⟨.inr (false, ()), rfl, rfl, fun hn => ?_⟩; have := hn.1 k hl (by omega); rw [WT] at this
       cases this
     · by_cases hs : (60 : Int) < ((ByteArray.size tx[k].1 : Nat) : Int)
       · rw [ah hs]; refine .inl ⟨.inr (false, ()), rfl, rfl, fun hn => ?_⟩; have := hn.2 k ht (by omega); omega
       · rw [ai hs]; refine .inr ⟨_, rfl, rfl, fun j hj FQ => ?_, fun j hj FQ => ?_⟩
         · by_cases e : j < k
           · exact g1 j hj e
           · have : j = k := by omega
             subst this; exact WT
         · by_cases e : j < k
           · exact g2 j hj e
           · have : j = k := by omega
             subst this; omega) ⟨rfl, fun j _ h => by omega, fun j _ h => by omega⟩
 unfold mc; rw [show (0 : Int) = ((0 : Nat) : Int) from rfl, he]
 cases e with
 | inr e =>
   obtain ⟨q1, q2⟩ := hq; refine ⟨false, by rw [← q1]; rfl, ⟨(fun h => by cases h), fun ⟨w1, w2, w3, w4⟩ => ?_⟩⟩; exact absurd ⟨fun j hj hm => w3 j hj hj, fun j hj hm => w4 j hj hj⟩ q2
 | inl e =>
   obtain ⟨q1, q2, q3⟩ := hq; subst q1; simp only [ir]
   by_cases w1 : ((List.length tx : Nat) : Int) ≤ 20
   · rw [ah w1]; refine ⟨_, rfl, ?_⟩; rw [decide_eq_true_eq]
     constructor
     · intro w2; have w2 : lv.length = tx.length := by omega
       exact ⟨by omega, w2, fun j hj _ => q2 j hj (by omega), fun j hj _ => q3 j hj (by omega)⟩
     · rintro ⟨_, w2, _⟩
       rw [w2]
   · rw [ai w1]; exact ⟨false, rfl, ⟨(fun h => by cases h), fun ⟨w2, _⟩ => by omega⟩⟩
theorem Hu (tx : List (ByteArray × Unit)) (h2 : tx.length ≤ 1048576) : ∃ b, mg tx = some (b, ()) ∧ (b = true ↔ gM tx tx.length) := by
 obtain ⟨e, he, hq⟩ := ef (round := gT) (x := (tx, ((List.length tx : Nat) : Int), ((0 : Nat) : Int), ())) tx.length (fun k x => x = (tx, ((List.length tx : Nat) : Int), ((k : Nat) : Int), ()) ∧ gM tx k) (fun e => (e = .inl () ∧ gM tx tx.length) ∨ (e = .inr (false, ()) ∧ ¬ gM tx tx.length)) (by
     rintro x ⟨rfl, g2⟩
     exact ⟨.inl (), by simp only [gT, l5, aF, cond_false], .inl ⟨rfl, g2⟩⟩) (by
     rintro k x hk ⟨rfl, g2⟩
     simp only [gT, l5, az hk, aq, cond_true, aC, List.getElem?_eq_getElem hk, Option.bind_some, aJ (show k < 4611686018427387904 by omega)]
     by_cases hs : (60 : Int) < ((ByteArray.size tx[k].1 : Nat) : Int)
     · rw [ah hs]; refine .inl ⟨.inr (false, ()), rfl, .inr ⟨rfl, fun hn => ?_⟩⟩; have := hn k hk hk; omega
     · rw [ai hs]; refine .inr ⟨_, rfl, rfl, fun j hj FQ => ?_⟩
       by_cases e : j < k
       · exact g2 j hj e
       · have : j = k := by omega
         subst this; omega) ⟨rfl, fun j _ h => by omega⟩
 unfold mg; rw [show (0 : Int) = ((0 : Nat) : Int) from rfl, he]; rcases hq with ⟨rfl, q⟩ | ⟨rfl, q⟩
 · exact ⟨true, rfl, ⟨fun _ => q, fun _ => rfl⟩⟩
 · exact ⟨false, rfl, ⟨(fun h => by cases h), fun h => absurd h q⟩⟩
theorem Bn (c0 c1 c2 c3 c4 : Int) (xs : List (Int × Unit)) : ∃ b, dF c0 c1 c2 c3 c4 xs = some (b, ()) ∧ dO c0 c1 c2 c3 c4 xs = some (b, ()) := by
 unfold dF lf dO
 cases decide (c0 = 0)
 · exact ⟨_, rfl, rfl⟩
 cases decide (c1 = 0)
 · exact ⟨_, rfl, rfl⟩
 cases decide (c2 = 0)
 · exact ⟨_, rfl, rfl⟩
 cases decide (c3 = 0)
 · exact ⟨_, rfl, rfl⟩
 cases decide (c4 = 0)
 · exact ⟨_, rfl, rfl⟩
 cases xs with
 | nil =>
   have hl := ee (round := fc) (e := .inl ()) 0 (fun k => (([] : List (Int × Unit)), ([] : List (Int × Unit)), ((k : Nat) : Int), ())) (by
     simp only [fc, nO, List.length_nil, aF, cond_false]) (fun k hk => by omega)
   have hl : aE fc (([] : List (Int × Unit)), ([] : List (Int × Unit)), (0 : Int), ()) = _ := hl; refine ⟨true, ?_, rfl⟩; simp only [cond_true, jv, List.length_nil, decide_true, Bool.not_true, cond_false, hl, ir, Option.bind_some]
 | cons x xs =>
   have e : decide (((List.length (x :: xs) : Nat) : Int) = (0 : Int)) = false := ai (by rw [List.length_cons]; omega); have e2 : decide (((List.length (x :: xs) : Nat) : Int) = ((List.length ([] : List (Int × Unit)) : Nat) : Int)) = false := e; refine ⟨false, ?_, ?_⟩
   · simp only [cond_true, jv, e2, Bool.not_false, Option.bind_some]
   · simp only [cond_true, e]
abbrev PL : Type := Int × Int × (List (Int × Unit)) × aM × (List (Int × Unit)) × (List (ByteArray × Unit)) × Int × Int × Int × Int × Int × Int × Int × Int × Int × (List (Int × Unit)) × Unit
def Sj (m : PL) (lv : List (Int × Unit)) : Sum PL (Bool × Unit) → Prop
 | .inl y => y = m ∧ sR lv lv.length
 | .inr b => b.1 = false ∧ ¬ sR lv lv.length
theorem Fs (cR : Int) (cS : Int) (cu : List (Int × Unit)) (cm : List (Int × Int × Int × ByteArray × Unit)) (bR : List (Int × Unit)) (cn : List (ByteArray × Unit)) (dD : Int) (dW : Int) (dX : Int) (dY : Int) (bD : Int) (bE : Int) (bF : Int) (bG : Int) (bH : Int) (bt : List (Int × Unit))
   (h0 : (List.length cu + wl D2 cu) + (List.length cm + wl nJ cm) + (List.length bR + wl D2 bR) + (List.length cn + wl Tg cn) + (List.length bt + wl D2 bt) ≤ 1048576) : ∃ o0, eH cR cS cu cm bR cn dD dW dX dY bD bE bF bG bH bt = some (o0, ()) ∧ fu cR cS cu cm bR cn dD dW dX dY bD bE bF bG bH bt = some (o0, ()) := by
 obtain ⟨b1, r1, r2, _⟩ := CN cS cu (by omega); obtain ⟨b2, c1, c2⟩ := vo cR cu (by omega); obtain ⟨b3, i1, i2⟩ := Bj cm (by omega); obtain ⟨b4, t1, t2⟩ := Bm bR cn (by omega) (by omega); obtain ⟨b5, s1, s2⟩ := Hu cn (by omega); obtain ⟨n, a1, a2, _⟩ := Bl cm (by omega); obtain ⟨b6, z1, z2⟩ := Bn bD bE bF bG bH bt; obtain ⟨b7, k1, k2, _⟩ := sC bD bE bF bG bH bt (by omega); obtain ⟨e, he, hq⟩ := ef (round := gV) (x := (cR, cS, cu, cm, bR, cn, dD, dW, dX, dY, bD, bE, bF, bG, bH, bt, bR, ((List.length bR : Nat) : Int), ((0 : Nat) : Int), ())) bR.length
   (fun k x => x = (cR, cS, cu, cm, bR, cn, dD, dW, dX, dY, bD, bE, bF, bG, bH, bt, bR, ((List.length bR : Nat) : Int), ((k : Nat) : Int), ()) ∧ sR bR k)
   (Sj (cR, cS, cu, cm, bR, cn, dD, dW, dX, dY, bD, bE, bF, bG, bH, bt, ()) bR) (by
     rintro x ⟨rfl, g⟩
     exact ⟨.inl _, by simp only [gV, px, aF, cond_false], rfl, g⟩) (by
     rintro k x hk ⟨rfl, g⟩
     simp only [gV, px, az hk, aq, cond_true, aC, List.getElem?_eq_getElem hk, Option.bind_some, xH, aJ (show k < 4611686018427387904 by omega)]
     cases WT : (decide (1 ≤ bR[k].1) && decide (bR[k].1 ≤ 2))
     · refine .inl ⟨.inr (false, ()), rfl, rfl, fun hn => ?_⟩; have := hn k hk hk; rw [WT] at this
       cases this
     · refine .inr ⟨_, rfl, rfl, fun j hj FQ => ?_⟩
       by_cases e : j < k
       · exact g j hj e
       · have : j = k := by omega
         subst this; exact WT) ⟨rfl, fun j _ h => by omega⟩
 have he : aE gV (cR, cS, cu, cm, bR, cn, dD, dW, dX, dY, bD, bE, bF, bG, bH, bt, bR, ((List.length bR : Nat) : Int), (0 : Int), ()) = some e := he; unfold eH fu; simp only [r1, r2, c1, c2, i1, i2, t1, s1, Option.bind_some, he]
 cases b1
 · cases b2
   · exact ⟨_, rfl, rfl⟩
   · exact ⟨_, rfl, rfl⟩
 cases b2
 · exact ⟨_, rfl, rfl⟩
 cases b3
 · exact ⟨_, rfl, rfl⟩
 simp only [Bool.not_true, cond_false]
 by_cases w1 : (20 : Int) < ((List.length cn : Nat) : Int)
 · have : b4 = false := by
     cases b4
     · rfl
     · have := (t2.1 rfl).1; omega
   subst this; rw [ah w1]; exact ⟨_, rfl, rfl⟩
 rw [ai w1]
 cases b5
 · have : b4 = false := by
     cases b4
     · rfl
     · have := s2.2 (t2.1 rfl).2.2.2; cases this
   subst this; exact ⟨_, rfl, rfl⟩
 by_cases w2 : ((List.length bR : Nat) : Int) = ((List.length cn : Nat) : Int)
 case neg =>
   have : b4 = false := by
     cases b4
     · rfl
     · have := (t2.1 rfl).2.1; omega
   subst this; rw [ai w2]; exact ⟨_, rfl, rfl⟩
 rw [ah w2]
 cases e with
 | inr e =>
   obtain ⟨q1, q2⟩ := hq; have : b4 = false := by
     cases b4
     · rfl
     · exact absurd (t2.1 rfl).2.2.1 q2
   subst this; refine ⟨false, rfl, ?_⟩; show some (e.1, ()) = _; rw [q1]
 | inl e =>
   obtain ⟨q1, q2⟩ := hq; subst q1; have : b4 = true := t2.2 ⟨by omega, by omega, q2, s2.1 rfl⟩; subst this; simp only [Bool.not_true, cond_false, ir, a1, a2, z1, z2, k1, k2, mO, sB, Option.bind_some]
   cases (decide (0 ≤ dD) && decide (dD ≤ 1000000000))
   · exact ⟨_, rfl, rfl⟩
   cases (decide (0 ≤ dW) && decide (dW ≤ 60))
   · exact ⟨_, rfl, rfl⟩
   cases (decide (0 ≤ dX) && decide (dX ≤ ((n : Nat) : Int)))
   · exact ⟨_, rfl, rfl⟩
   cases (decide (0 ≤ dY) && decide (dY ≤ ((n : Nat) : Int)))
   · exact ⟨_, rfl, rfl⟩
   cases b6
   · exact ⟨_, rfl, rfl⟩
   · exact ⟨_, rfl, rfl⟩
def jX (r : dx) : Prop := (1 ≤ r.1 ∧ r.1 ≤ 60) ∧ (1 ≤ r.2.1 ∧ r.2.1 ≤ 5) ∧ (1 ≤ r.2.2.1 ∧ r.2.2.1 ≤ 2) ∧ ByteArray.size r.2.2.2.1 ≤ 60
def gF (xs : aM) (n : Nat) : Prop := ∀ k (h : k < xs.length), k < n → jX xs[k] ∧ ∀ h0 : 0 < k, xs[k - 1].1 < xs[k].1
theorem Ft (a b c : Int) (s : ByteArray) : ∃ x, gd a b c s = some (x, ()) ∧ gY a b c s = some (x, ()) ∧ (x = true ↔ jX (a, b, c, s, ())) := by
 have hi : ∀ {p q r : Prop} [Decidable p] [Decidable q], (decide p && decide q) = false → ¬ ((p ∧ q) ∧ r) := by
   intro p q r _ _ h ⟨h1, _⟩; rw [decide_eq_true h1.1, decide_eq_true h1.2] at h
   cases h
 unfold gd gY jX; simp only [mO, sB, oE, xH, Option.bind_some]
 cases h1 : (decide (1 ≤ a) && decide (a ≤ 60))
 · exact ⟨false, rfl, rfl, ⟨fun h => (by cases h), fun h => absurd h (hi h1)⟩⟩
 rw [Bool.and_eq_true, decide_eq_true_eq, decide_eq_true_eq] at h1
 cases h2 : (decide (1 ≤ b) && decide (b ≤ 5))
 · exact ⟨false, rfl, rfl, ⟨fun h => (by cases h), fun h => absurd h.2 (hi h2)⟩⟩
 rw [Bool.and_eq_true, decide_eq_true_eq, decide_eq_true_eq] at h2
 cases h3 : (decide (1 ≤ c) && decide (c ≤ 2))
 · exact ⟨false, rfl, rfl, ⟨fun h => (by cases h), fun h => absurd h.2.2 (hi h3)⟩⟩
 rw [Bool.and_eq_true, decide_eq_true_eq, decide_eq_true_eq] at h3; refine ⟨_, rfl, rfl, ?_⟩; rw [decide_eq_true_eq]; exact ⟨fun h => ⟨h1, h2, h3, by omega⟩, fun h => by have := h.2.2.2; omega⟩
theorem JI (xs : aM) (h : xs.length ≤ 1048576) : ∃ b, fm xs = some (b, ()) ∧ ic xs = some (b, ()) ∧ (b = true ↔ gF xs xs.length) := by
 obtain ⟨b, h1, h2⟩ := Bj xs h; refine ⟨b, h1, h2, ?_⟩; obtain ⟨e, he, hq⟩ := ef (round := cZ) (x := (xs, ((0 : Nat) : Int), ())) xs.length (fun k x => x = (xs, ((k : Nat) : Int), ()) ∧ gF xs k) (fun e => (e = .inl () ∧ gF xs xs.length) ∨ (e = .inr (false, ()) ∧ ¬ gF xs xs.length)) (by
     rintro x ⟨rfl, g⟩
     exact ⟨.inl (), by simp only [cZ, iw, aF, cond_false], .inl ⟨rfl, g⟩⟩) (by
     rintro k x hk ⟨rfl, g⟩
     obtain ⟨b, r1, _, r3⟩ := Ft xs[k].1 xs[k].2.1 xs[k].2.2.1 xs[k].2.2.2.1; have r3 : b = true ↔ jX xs[k] := r3; simp only [cZ, iw, az hk, aq, cond_true, aC, List.getElem?_eq_getElem hk, Option.bind_some, r1, aJ (show k < 4611686018427387904 by omega)]; have more : jX xs[k] → (∀ h0 : 0 < k, xs[k - 1].1 < xs[k].1) → gF xs (k + 1) := fun q1 q2 j hj FQ => by
       by_cases e : j < k
       · exact g j hj e
       · have : j = k := by omega
         subst this; exact ⟨q1, q2⟩
     cases b
     · exact .inl ⟨.inr (false, ()), rfl, .inr ⟨rfl, fun hn => absurd (r3.2 (hn k hk hk).1) (by simp)⟩⟩
     · have q1 := r3.1 rfl
       by_cases h0 : 0 < k
       · have hp : k - 1 < xs.length := by omega
         rw [oF h0 (by omega)]; simp only [ah (show (0 : Int) < ((k : Nat) : Int) by omega), Bool.not_true, cond_false, cond_true, aq, aC, List.getElem?_eq_getElem hp, Option.bind_some]
         by_cases hs : xs[k].1 ≤ xs[k - 1].1
         · rw [ah hs]; refine .inl ⟨.inr (false, ()), rfl, .inr ⟨rfl, fun hn => ?_⟩⟩; have := (hn k hk hk).2 h0; omega
         · rw [ai hs]; exact .inr ⟨_, rfl, rfl, more q1 (fun _ => by omega)⟩
       · have : k = 0 := by omega
         subst this; simp only [ai (show ¬ (0 : Int) < ((0 : Nat) : Int) by omega), Bool.not_true, cond_false]; exact .inr ⟨_, rfl, rfl, more q1 (fun h => absurd h (by omega))⟩) ⟨rfl, fun j _ h => by omega⟩
 have he : aE cZ (xs, (0 : Int), ()) = some e := he; unfold fm at h1; rw [he] at h1; rcases hq with ⟨rfl, g⟩ | ⟨rfl, g⟩
 · injection h1 with h1; injection h1 with h1 _; exact ⟨fun _ => g, fun _ => h1.symm⟩
 · injection h1 with h1; injection h1 with h1 _; subst h1; exact ⟨fun h => (by cases h), fun h => absurd h g⟩
theorem MJ {α : Type} (f : α → Nat) (c : Nat) : (xs : List α) → (∀ x ∈ xs, f x ≤ c) → wl f xs ≤ c * xs.length
 | [], _ => Nat.zero_le _
 | x :: xs, h => by
   rw [NR, List.length_cons, Nat.mul_succ]; have := MJ f c xs (fun y hy => h y (List.mem_cons_of_mem _ hy)); have := h x List.mem_cons_self; omega
theorem CQ (xs : aM) (h : gF xs xs.length) : ∀ k (hk : k < xs.length), ((k + 1 : Nat) : Int) ≤ xs[k].1
 | 0, hk => by have := (h 0 hk hk).1.1.1; omega
 | k + 1, hk => by
   have h1 := CQ xs h k (by omega); have h2 := (h (k + 1) hk hk).2 (by omega); have h2 : xs[k].1 < xs[k + 1].1 := h2; omega
theorem cA (xs : aM) (h : gF xs xs.length) : xs.length ≤ 60 ∧ wl nJ xs ≤ 3600 := by
 have h1 : xs.length ≤ 60 := by
   by_cases h0 : 0 < xs.length
   · have := CQ xs h (xs.length - 1) (by omega); have := (h (xs.length - 1) (by omega) (by omega)).1.1.2; omega
   · omega
 refine ⟨h1, Nat.le_trans (MJ nJ 60 xs fun x hx => ?_) (by omega)⟩; obtain ⟨k, hk, rfl⟩ := List.mem_iff_getElem.1 hx; exact (h k hk hk).1.2.2.2
theorem zg (xs : List (ByteArray × Unit)) (h : gM xs xs.length) : wl Tg xs ≤ 60 * xs.length := by
 refine MJ Tg 60 xs fun x hx => ?_
 obtain ⟨k, hk, rfl⟩ := List.mem_iff_getElem.1 hx; exact h k hk hk
structure PM (c0 c1 : Int) (c2 : List (Int × Unit)) (c3 : aM) (c4 : List (Int × Unit)) (c5 : List (ByteArray × Unit)) (c6 c7 c8 c9 : Int) (WU : List (Int × Unit)) : Prop where
 ring : 1 ≤ c2.length ∧ c2.length ≤ 5
 items : gF c3 c3.length
 texts : c5.length ≤ 20 ∧ c4.length = c5.length
 Oj : sR c4 c4.length
 short : gM c5 c5.length
 round : 0 ≤ c6 ∧ c6 ≤ 1000000000
 seen : 0 ≤ c7 ∧ c7 ≤ 60
 aru : ∃ n : Nat, eV c3 = some (((n : Nat) : Int), ()) ∧ gD c3 = some (((n : Nat) : Int), ()) ∧ It c3 n ∧ (0 ≤ c8 ∧ c8 ≤ ((n : Nat) : Int)) ∧ 0 ≤ c9 ∧ c9 ≤ ((n : Nat) : Int)
 WV : WU.length ≤ 20
theorem wE {p q : Prop} [Decidable p] [Decidable q] (h : (decide p && decide q) = true) : p ∧ q := by
 rw [Bool.and_eq_true, decide_eq_true_eq, decide_eq_true_eq] at h; exact h
theorem PM.small {c0 c1 : Int} {c2 : List (Int × Unit)} {c3 : aM} {c4 : List (Int × Unit)} {c5 : List (ByteArray × Unit)} {c6 c7 c8 c9 : Int} {WU : List (Int × Unit)} (h : PM c0 c1 c2 c3 c4 c5 c6 c7 c8 c9 WU) :
   (List.length c2 + wl D2 c2) + (List.length c3 + wl nJ c3) + (List.length c4 + wl D2 c4) + (List.length c5 + wl Tg c5) + (List.length WU + wl D2 WU) ≤ 5000 := by
 have h1 := cA c3 h.items; have h2 := zg c5 h.short; have h3 := h.texts; have h4 := h.ring; have h5 := h.WV; rw [uI D2 (fun _ => rfl), uI D2 (fun _ => rfl), uI D2 (fun _ => rfl)]; omega
theorem zh (xs : aM) (h : xs.length ≤ 1048576) : dN xs = some (xs, ()) := by
 unfold dN; rw [aH (show (0 + xs.length) * 40 ≤ lim by unfold lim; omega)]; rfl
theorem DJ (xs : List (ByteArray × Unit)) (h : xs.length ≤ 1048576) : gL xs = some (xs, ()) := by
 unfold gL; rw [aH (show (0 + xs.length) * 16 ≤ lim by unfold lim; omega)]; rfl
theorem kI (cR : Int) (cS : Int) (cu : List (Int × Unit)) (cm : aM) (bR : List (Int × Unit)) (cn : List (ByteArray × Unit)) (dD : Int) (dW : Int) (dX : Int) (dY : Int) (bD : Int) (bE : Int) (bF : Int) (bG : Int) (bH : Int) (bt : List (Int × Unit))
   (h0 : (List.length cu + wl D2 cu) + (List.length cm + wl nJ cm) + (List.length bR + wl D2 bR) + (List.length cn + wl Tg cn) + (List.length bt + wl D2 bt) ≤ 1048576) :
   fo cR cS cu cm bR cn dD dW dX dY bD bE bF bG bH bt = some (cR, cS, cu, cm, bR, cn, dD, dW, dX, dY, bD, bE, bF, bG, bH, bt, ()) ∧
   ft cR cS cu cm bR cn dD dW dX dY bD bE bF bG bH bt = some (cR, cS, cu, cm, bR, cn, dD, dW, dX, dY, bD, bE, bF, bG, bH, bt, ()) := by
 obtain ⟨t1, t2⟩ := ig bD bE bF bG bH bt (by omega)
 constructor
 · unfold fo; rw [aH (show (0 + cu.length) * 8 ≤ lim by unfold lim; omega), aH (show (0 + cm.length) * 40 ≤ lim by unfold lim; omega), aH (show (0 + bR.length) * 8 ≤ lim by unfold lim; omega), aH (show (0 + cn.length) * 16 ≤ lim by unfold lim; omega), t1]; rfl
 · unfold ft qy; rw [qY cu (by omega), zh cm (by omega), qY bR (by omega), DJ cn (by omega), t2]; rfl
abbrev dy : Type := List (Int × Unit)
abbrev kt : Type := Int × Int × Int × Int × Int × dy × Unit
abbrev ew : Type := Int × Int × dy × aM × dy × (List (ByteArray × Unit)) × Int × Int × Int × Int × Int × Int × Int × Int × Int × dy × Unit
def Hv (xs : dy) (n : Nat) : Prop := ∀ k (h : k < xs.length), k < n → (1 ≤ xs[k].1 ∧ xs[k].1 ≤ 5) ∧ ∀ h0 : 0 < k, xs[k - 1].1 < xs[k].1
def pF (c : Int) (xs : dy) : Prop := (1 ≤ c ∧ c ≤ 9) ∧ (1 ≤ xs.length ∧ xs.length ≤ 5) ∧ Hv xs xs.length
theorem MK (c : Int) (xs : dy) (h : xs.length ≤ 1048576) : ∃ b, b8 c xs = some (b, ()) ∧ kG c xs = some (b, ()) ∧ (b = true ↔ pF c xs) := by
 obtain ⟨b, h1, h2, _⟩ := CN c xs h; refine ⟨b, h1, h2, ?_⟩; obtain ⟨e, he, hq⟩ := ef (round := dJ) (x := (c, xs, ((0 : Nat) : Int), ())) xs.length (fun k x => x = (c, xs, ((k : Nat) : Int), ()) ∧ Hv xs k) (fun e => (e = .inl () ∧ Hv xs xs.length) ∨ (e = .inr (false, ()) ∧ ¬ Hv xs xs.length)) (by
     rintro x ⟨rfl, g⟩
     exact ⟨.inl (), by simp only [dJ, ji, aF, cond_false], .inl ⟨rfl, g⟩⟩) (by
     rintro k x hk ⟨rfl, g⟩
     simp only [dJ, ji, az hk, aq, cond_true, aC, List.getElem?_eq_getElem hk, Option.bind_some, mO, aJ (show k < 4611686018427387904 by omega)]; have more : (1 ≤ xs[k].1 ∧ xs[k].1 ≤ 5) → (∀ h0 : 0 < k, xs[k - 1].1 < xs[k].1) → Hv xs (k + 1) := fun q1 q2 j hj FQ => by
       by_cases e : j < k
       · exact g j hj e
       · have : j = k := by omega
         subst this; exact ⟨q1, q2⟩
     cases hb : (decide (1 ≤ xs[k].1) && decide (xs[k].1 ≤ 5))
     · exact .inl ⟨.inr (false, ()), rfl, .inr ⟨rfl, fun hn => by
         have := (hn k hk hk).1; rw [ah this.1, ah this.2] at hb
         cases hb⟩⟩
     · have q1 := wE hb
       by_cases h0 : 0 < k
       · have hp : k - 1 < xs.length := by omega
         rw [oF h0 (by omega)]; simp only [ah (show (0 : Int) < ((k : Nat) : Int) by omega), Bool.not_true, cond_false, cond_true, aq, aC, List.getElem?_eq_getElem hp, Option.bind_some]
         by_cases hs : xs[k].1 ≤ xs[k - 1].1
         · rw [ah hs]; refine .inl ⟨.inr (false, ()), rfl, .inr ⟨rfl, fun hn => ?_⟩⟩; have := (hn k hk hk).2 h0; omega
         · rw [ai hs]; exact .inr ⟨_, rfl, rfl, more q1 (fun _ => by omega)⟩
       · have : k = 0 := by omega
         subst this; simp only [ai (show ¬ (0 : Int) < ((0 : Nat) : Int) by omega), Bool.not_true, cond_false]; exact .inr ⟨_, rfl, rfl, more q1 (fun h => absurd h (by omega))⟩) ⟨rfl, fun j _ h => by omega⟩
 have he : aE dJ (c, xs, (0 : Int), ()) = some e := he; unfold b8 at h1; simp only [mO, Option.bind_some, he] at h1; unfold pF
 cases a1 : (decide (1 ≤ c) && decide (c ≤ 9))
 · rw [a1] at h1; injection h1 with h1; injection h1 with h1 _; subst h1; refine ⟨fun h => (by cases h), fun h => ?_⟩; rw [ah h.1.1, ah h.1.2] at a1
   cases a1
 cases a2 : (decide (1 ≤ ((List.length xs : Nat) : Int)) && decide (((List.length xs : Nat) : Int) ≤ 5))
 · rw [a1, a2] at h1; injection h1 with h1; injection h1 with h1 _; subst h1; refine ⟨fun h => (by cases h), fun h => ?_⟩; rw [ah (show (1 : Int) ≤ ((List.length xs : Nat) : Int) by omega), ah (show ((List.length xs : Nat) : Int) ≤ 5 by omega)] at a2
   cases a2
 rw [a1, a2] at h1; have a1 := wE a1; have a2 := wE a2; rcases hq with ⟨rfl, g⟩ | ⟨rfl, g⟩
 · injection h1 with h1; injection h1 with h1 _; exact ⟨fun _ => ⟨a1, by omega, g⟩, fun _ => h1.symm⟩
 · injection h1 with h1; injection h1 with h1 _; subst h1; exact ⟨fun h => (by cases h), fun h => absurd h.2.2 g⟩
noncomputable def Bo (c : Int) (xs : dy) : Bool := match b8 c xs with | some x => x.1 | none => false
theorem qg (c : Int) (xs : dy) (h : xs.length ≤ 1048576) : b8 c xs = some (Bo c xs, ()) ∧ kG c xs = some (Bo c xs, ()) ∧ (Bo c xs = true ↔ pF c xs) := by
 obtain ⟨b, h1, h2, h3⟩ := MK c xs h; have : Bo c xs = b := by unfold Bo; rw [h1]
 rw [this]; exact ⟨h1, h2, h3⟩
noncomputable def qA (xs : aM) : Bool := match fm xs with | some x => x.1 | none => false
theorem ug (xs : aM) (h : xs.length ≤ 1048576) : fm xs = some (qA xs, ()) ∧ ic xs = some (qA xs, ()) ∧ (qA xs = true ↔ gF xs xs.length) := by
 obtain ⟨b, h1, h2, h3⟩ := JI xs h; have : qA xs = b := by unfold qA; rw [h1]
 rw [this]; exact ⟨h1, h2, h3⟩
noncomputable def xI (r : dx) : Bool := match gd r.1 r.2.1 r.2.2.1 r.2.2.2.1 with | some x => x.1 | none => false
theorem zG (r : dx) : gd r.1 r.2.1 r.2.2.1 r.2.2.2.1 = some (xI r, ()) ∧ gY r.1 r.2.1 r.2.2.1 r.2.2.2.1 = some (xI r, ()) ∧ (xI r = true ↔ jX r) := by
 obtain ⟨b, h1, h2, h3⟩ := Ft r.1 r.2.1 r.2.2.1 r.2.2.2.1; have : xI r = b := by unfold xI; rw [h1]
 rw [this]; exact ⟨h1, h2, h3⟩
theorem zH {p q : Prop} [Decidable p] [Decidable q] : (decide p && decide q) = true ↔ p ∧ q := by
 rw [Bool.and_eq_true, decide_eq_true_eq, decide_eq_true_eq]
theorem JJ (c0 c1 c2 c3 c4 : Int) (xs : dy) : ∃ b, dF c0 c1 c2 c3 c4 xs = some (b, ()) ∧ dO c0 c1 c2 c3 c4 xs = some (b, ()) ∧ (b = true ↔ c0 = 0 ∧ c1 = 0 ∧ c2 = 0 ∧ c3 = 0 ∧ c4 = 0 ∧ xs = []) := by
 obtain ⟨b, h1, h2⟩ := Bn c0 c1 c2 c3 c4 xs; refine ⟨b, h1, h2, ?_⟩; unfold dO at h2; have hl : ((List.length xs : Nat) : Int) = 0 ↔ xs = [] := by rw [← List.length_eq_zero_iff]; omega
 by_cases e0 : c0 = 0
 case neg => simp [ai e0] at h2; subst h2; simp [e0]
 by_cases e1 : c1 = 0
 case neg => simp [ah e0, ai e1] at h2; subst h2; simp [e1]
 by_cases e2 : c2 = 0
 case neg => simp [ah e0, ah e1, ai e2] at h2; subst h2; simp [e2]
 by_cases e3 : c3 = 0
 case neg => simp [ah e0, ah e1, ah e2, ai e3] at h2; subst h2; simp [e3]
 by_cases e4 : c4 = 0
 case neg => simp [ah e0, ah e1, ah e2, ah e3, ai e4] at h2; subst h2; simp [e4]
 by_cases e5 : ((List.length xs : Nat) : Int) = 0
 · rw [ah e0, ah e1, ah e2, ah e3, ah e4, ah e5] at h2; injection h2 with h2; injection h2 with h2 _; exact ⟨fun _ => ⟨e0, e1, e2, e3, e4, hl.1 e5⟩, fun _ => h2.symm⟩
 · rw [ah e0, ah e1, ah e2, ah e3, ah e4, ai e5] at h2; injection h2 with h2; injection h2 with h2 _; subst h2; exact ⟨fun h => (by cases h), fun h => absurd (hl.2 h.2.2.2.2.2) e5⟩
def Blank (t : kt) : Prop := t.1 = 0 ∧ t.2.1 = 0 ∧ t.2.2.1 = 0 ∧ t.2.2.2.1 = 0 ∧ t.2.2.2.2.1 = 0 ∧ t.2.2.2.2.2.1 = []
noncomputable def pG (t : kt) : Bool := match dF t.1 t.2.1 t.2.2.1 t.2.2.2.1 t.2.2.2.2.1 t.2.2.2.2.2.1 with | some x => x.1 | none => false
theorem ui (t : kt) : dF t.1 t.2.1 t.2.2.1 t.2.2.2.1 t.2.2.2.2.1 t.2.2.2.2.2.1 = some (pG t, ()) ∧ dO t.1 t.2.1 t.2.2.1 t.2.2.2.1 t.2.2.2.2.1 t.2.2.2.2.2.1 = some (pG t, ()) ∧ (pG t = true ↔ Blank t) := by
 obtain ⟨b, h1, h2, h3⟩ := JJ t.1 t.2.1 t.2.2.1 t.2.2.2.1 t.2.2.2.2.1 t.2.2.2.2.2.1; have : pG t = b := by unfold pG; rw [h1]
 rw [this]; exact ⟨h1, h2, h3⟩
def Bp (t : kt) : Prop := Si t.1 t.2.1 t.2.2.1 t.2.2.2.1 t.2.2.2.2.1 t.2.2.2.2.2.1
noncomputable def B4 (t : kt) : Bool := match cf t.1 t.2.1 t.2.2.1 t.2.2.2.1 t.2.2.2.2.1 t.2.2.2.2.2.1 with | some x => x.1 | none => false
theorem Bq (t : kt) (h : t.2.2.2.2.2.1.length ≤ 1048576) : cf t.1 t.2.1 t.2.2.1 t.2.2.2.1 t.2.2.2.2.1 t.2.2.2.2.2.1 = some (B4 t, ()) ∧ eD t.1 t.2.1 t.2.2.1 t.2.2.2.1 t.2.2.2.2.1 t.2.2.2.2.2.1 = some (B4 t, ()) ∧ (B4 t = true ↔ Bp t) := by
 obtain ⟨b, h1, h2, h3⟩ := CO t.1 t.2.1 t.2.2.1 t.2.2.2.1 t.2.2.2.2.1 t.2.2.2.2.2.1 h; have : B4 t = b := by unfold B4; rw [h1]
 rw [this]; exact ⟨h1, h2, h3⟩
noncomputable def cF (xs : aM) : Nat := match eV xs with | some x => x.1.toNat | none => 0
theorem uj (xs : aM) (h : xs.length ≤ 1048576) : eV xs = some (((cF xs : Nat) : Int), ()) ∧ gD xs = some (((cF xs : Nat) : Int), ()) ∧ It xs (cF xs) := by
 obtain ⟨n, h1, h2, h3⟩ := Bl xs h; have : cF xs = n := by unfold cF; rw [h1]; rfl
 rw [this]; exact ⟨h1, h2, h3⟩
structure sE (m : ew) : Prop where
 ring : pF m.2.1 m.2.2.1
 mem : (m.1, ()) ∈ m.2.2.1
 items : gF m.2.2.2.1 m.2.2.2.1.length
 texts : m.2.2.2.2.2.1.length ≤ 20 ∧ m.2.2.2.2.1.length = m.2.2.2.2.2.1.length
 Oj : sR m.2.2.2.2.1 m.2.2.2.2.1.length
 short : gM m.2.2.2.2.2.1 m.2.2.2.2.2.1.length
 round : 0 ≤ m.2.2.2.2.2.2.1 ∧ m.2.2.2.2.2.2.1 ≤ 1000000000
 seen : 0 ≤ m.2.2.2.2.2.2.2.1 ∧ m.2.2.2.2.2.2.2.1 ≤ 60
 line : 0 ≤ m.2.2.2.2.2.2.2.2.1 ∧ m.2.2.2.2.2.2.2.2.1 ≤ ((cF m.2.2.2.1 : Nat) : Int)
 heard : 0 ≤ m.2.2.2.2.2.2.2.2.2.1 ∧ m.2.2.2.2.2.2.2.2.2.1 ≤ ((cF m.2.2.2.1 : Nat) : Int)
 last : Blank (m.2.2.2.2.2.2.2.2.2.2.1, m.2.2.2.2.2.2.2.2.2.2.2.1, m.2.2.2.2.2.2.2.2.2.2.2.2.1, m.2.2.2.2.2.2.2.2.2.2.2.2.2.1, m.2.2.2.2.2.2.2.2.2.2.2.2.2.2.1, m.2.2.2.2.2.2.2.2.2.2.2.2.2.2.2.1, ()) ∨ Bp (m.2.2.2.2.2.2.2.2.2.2.1, m.2.2.2.2.2.2.2.2.2.2.2.1, m.2.2.2.2.2.2.2.2.2.2.2.2.1, m.2.2.2.2.2.2.2.2.2.2.2.2.2.1, m.2.2.2.2.2.2.2.2.2.2.2.2.2.2.1, m.2.2.2.2.2.2.2.2.2.2.2.2.2.2.2.1, ())
def zw (m : ew) : Nat := (List.length m.2.2.1 + wl D2 m.2.2.1) + (List.length m.2.2.2.1 + wl nJ m.2.2.2.1) + (List.length m.2.2.2.2.1 + wl D2 m.2.2.2.2.1) + (List.length m.2.2.2.2.2.1 + wl Tg m.2.2.2.2.2.1) + (List.length m.2.2.2.2.2.2.2.2.2.2.2.2.2.2.2.1 + wl D2 m.2.2.2.2.2.2.2.2.2.2.2.2.2.2.2.1)
noncomputable def u0 (m : ew) : Bool := match eH m.1 m.2.1 m.2.2.1 m.2.2.2.1 m.2.2.2.2.1 m.2.2.2.2.2.1 m.2.2.2.2.2.2.1 m.2.2.2.2.2.2.2.1 m.2.2.2.2.2.2.2.2.1 m.2.2.2.2.2.2.2.2.2.1 m.2.2.2.2.2.2.2.2.2.2.1 m.2.2.2.2.2.2.2.2.2.2.2.1 m.2.2.2.2.2.2.2.2.2.2.2.2.1 m.2.2.2.2.2.2.2.2.2.2.2.2.2.1 m.2.2.2.2.2.2.2.2.2.2.2.2.2.2.1 m.2.2.2.2.2.2.2.2.2.2.2.2.2.2.2.1 with | some x => x.1 | none => false
theorem sF (m : ew) (h0 : zw m ≤ 1048576) : eH m.1 m.2.1 m.2.2.1 m.2.2.2.1 m.2.2.2.2.1 m.2.2.2.2.2.1 m.2.2.2.2.2.2.1 m.2.2.2.2.2.2.2.1 m.2.2.2.2.2.2.2.2.1 m.2.2.2.2.2.2.2.2.2.1 m.2.2.2.2.2.2.2.2.2.2.1 m.2.2.2.2.2.2.2.2.2.2.2.1 m.2.2.2.2.2.2.2.2.2.2.2.2.1 m.2.2.2.2.2.2.2.2.2.2.2.2.2.1 m.2.2.2.2.2.2.2.2.2.2.2.2.2.2.1 m.2.2.2.2.2.2.2.2.2.2.2.2.2.2.2.1 = some (u0 m, ()) ∧ fu m.1 m.2.1 m.2.2.1 m.2.2.2.1 m.2.2.2.2.1 m.2.2.2.2.2.1 m.2.2.2.2.2.2.1 m.2.2.2.2.2.2.2.1 m.2.2.2.2.2.2.2.2.1 m.2.2.2.2.2.2.2.2.2.1 m.2.2.2.2.2.2.2.2.2.2.1 m.2.2.2.2.2.2.2.2.2.2.2.1 m.2.2.2.2.2.2.2.2.2.2.2.2.1 m.2.2.2.2.2.2.2.2.2.2.2.2.2.1 m.2.2.2.2.2.2.2.2.2.2.2.2.2.2.1 m.2.2.2.2.2.2.2.2.2.2.2.2.2.2.2.1 = some (u0 m, ()) ∧ (u0 m = true ↔ sE m) := by
 obtain ⟨b, k1, k2⟩ := Fs m.1 m.2.1 m.2.2.1 m.2.2.2.1 m.2.2.2.2.1 m.2.2.2.2.2.1 m.2.2.2.2.2.2.1 m.2.2.2.2.2.2.2.1 m.2.2.2.2.2.2.2.2.1 m.2.2.2.2.2.2.2.2.2.1 m.2.2.2.2.2.2.2.2.2.2.1 m.2.2.2.2.2.2.2.2.2.2.2.1 m.2.2.2.2.2.2.2.2.2.2.2.2.1 m.2.2.2.2.2.2.2.2.2.2.2.2.2.1 m.2.2.2.2.2.2.2.2.2.2.2.2.2.2.1 m.2.2.2.2.2.2.2.2.2.2.2.2.2.2.2.1 h0; have hb : u0 m = b := by unfold u0; rw [k1]
 rw [hb]; refine ⟨k1, k2, ?_⟩; unfold zw at h0; obtain ⟨r1, _, r3⟩ := qg m.2.1 m.2.2.1 (by omega); have c1 := DI m.2.2.1 m.1 (by omega); obtain ⟨i1, _, i3⟩ := ug m.2.2.2.1 (by omega); obtain ⟨b4, t1, t2⟩ := Bm m.2.2.2.2.1 m.2.2.2.2.2.1 (by omega) (by omega); obtain ⟨a1, a2, a3⟩ := uj m.2.2.2.1 (by omega); have z1 : dF m.2.2.2.2.2.2.2.2.2.2.1 m.2.2.2.2.2.2.2.2.2.2.2.1 m.2.2.2.2.2.2.2.2.2.2.2.2.1 m.2.2.2.2.2.2.2.2.2.2.2.2.2.1 m.2.2.2.2.2.2.2.2.2.2.2.2.2.2.1 m.2.2.2.2.2.2.2.2.2.2.2.2.2.2.2.1 = some (pG (m.2.2.2.2.2.2.2.2.2.2.1, m.2.2.2.2.2.2.2.2.2.2.2.1, m.2.2.2.2.2.2.2.2.2.2.2.2.1, m.2.2.2.2.2.2.2.2.2.2.2.2.2.1, m.2.2.2.2.2.2.2.2.2.2.2.2.2.2.1, m.2.2.2.2.2.2.2.2.2.2.2.2.2.2.2.1, ()), ()) := (ui (m.2.2.2.2.2.2.2.2.2.2.1, m.2.2.2.2.2.2.2.2.2.2.2.1, m.2.2.2.2.2.2.2.2.2.2.2.2.1, m.2.2.2.2.2.2.2.2.2.2.2.2.2.1, m.2.2.2.2.2.2.2.2.2.2.2.2.2.2.1, m.2.2.2.2.2.2.2.2.2.2.2.2.2.2.2.1, ())).1; have z3 := (ui (m.2.2.2.2.2.2.2.2.2.2.1, m.2.2.2.2.2.2.2.2.2.2.2.1, m.2.2.2.2.2.2.2.2.2.2.2.2.1, m.2.2.2.2.2.2.2.2.2.2.2.2.2.1, m.2.2.2.2.2.2.2.2.2.2.2.2.2.2.1, m.2.2.2.2.2.2.2.2.2.2.2.2.2.2.2.1, ())).2.2; have w1 : cf m.2.2.2.2.2.2.2.2.2.2.1 m.2.2.2.2.2.2.2.2.2.2.2.1 m.2.2.2.2.2.2.2.2.2.2.2.2.1 m.2.2.2.2.2.2.2.2.2.2.2.2.2.1 m.2.2.2.2.2.2.2.2.2.2.2.2.2.2.1 m.2.2.2.2.2.2.2.2.2.2.2.2.2.2.2.1 = some (B4 (m.2.2.2.2.2.2.2.2.2.2.1, m.2.2.2.2.2.2.2.2.2.2.2.1, m.2.2.2.2.2.2.2.2.2.2.2.2.1, m.2.2.2.2.2.2.2.2.2.2.2.2.2.1, m.2.2.2.2.2.2.2.2.2.2.2.2.2.2.1, m.2.2.2.2.2.2.2.2.2.2.2.2.2.2.2.1, ()), ()) := (Bq (m.2.2.2.2.2.2.2.2.2.2.1, m.2.2.2.2.2.2.2.2.2.2.2.1, m.2.2.2.2.2.2.2.2.2.2.2.2.1, m.2.2.2.2.2.2.2.2.2.2.2.2.2.1, m.2.2.2.2.2.2.2.2.2.2.2.2.2.2.1, m.2.2.2.2.2.2.2.2.2.2.2.2.2.2.2.1, ()) (by show m.2.2.2.2.2.2.2.2.2.2.2.2.2.2.2.1.length ≤ _; omega)).1; have w3 := (Bq (m.2.2.2.2.2.2.2.2.2.2.1, m.2.2.2.2.2.2.2.2.2.2.2.1, m.2.2.2.2.2.2.2.2.2.2.2.2.1, m.2.2.2.2.2.2.2.2.2.2.2.2.2.1, m.2.2.2.2.2.2.2.2.2.2.2.2.2.2.1, m.2.2.2.2.2.2.2.2.2.2.2.2.2.2.2.1, ()) (by show m.2.2.2.2.2.2.2.2.2.2.2.2.2.2.2.1.length ≤ _; omega)).2.2; unfold eH at k1; simp only [r1, c1, i1, t1, a1, z1, w1, mO, Option.bind_some] at k1
 cases e1 : Bo m.2.1 m.2.2.1
 · rw [e1] at k1; injection k1 with k1; injection k1 with k1 _; subst k1; exact ⟨fun h => (by cases h), fun h => by rw [r3.2 h.ring] at e1; cases e1⟩
 by_cases e2 : (m.1, ()) ∈ m.2.2.1
 case neg =>
   rw [e1, ai e2] at k1; injection k1 with k1; injection k1 with k1 _; subst k1; exact ⟨fun h => (by cases h), fun h => absurd h.mem e2⟩
 cases e3 : qA m.2.2.2.1
 · rw [e1, ah e2, e3] at k1; injection k1 with k1; injection k1 with k1 _; subst k1; exact ⟨fun h => (by cases h), fun h => by rw [i3.2 h.items] at e3; cases e3⟩
 cases b4
 · rw [e1, ah e2, e3] at k1; injection k1 with k1; injection k1 with k1 _; subst k1; exact ⟨fun h => (by cases h), fun h => by have := t2.2 ⟨h.texts.1, h.texts.2, h.Oj, h.short⟩; cases this⟩
 rw [e1, ah e2, e3] at k1; simp only [Bool.not_true, cond_false] at k1
 cases e5 : (decide ((0 : Int) ≤ m.2.2.2.2.2.2.1) && decide (m.2.2.2.2.2.2.1 ≤ 1000000000))
 · rw [e5] at k1; injection k1 with k1; injection k1 with k1 _; subst k1; exact ⟨fun h => (by cases h), fun h => by rw [zH.2 h.round] at e5; cases e5⟩
 cases e6 : (decide ((0 : Int) ≤ m.2.2.2.2.2.2.2.1) && decide (m.2.2.2.2.2.2.2.1 ≤ 60))
 · rw [e5, e6] at k1; injection k1 with k1; injection k1 with k1 _; subst k1; exact ⟨fun h => (by cases h), fun h => by rw [zH.2 h.seen] at e6; cases e6⟩
 cases e8 : (decide ((0 : Int) ≤ m.2.2.2.2.2.2.2.2.1) && decide (m.2.2.2.2.2.2.2.2.1 ≤ ((cF m.2.2.2.1 : Nat) : Int)))
 · rw [e5, e6, e8] at k1; injection k1 with k1; injection k1 with k1 _; subst k1; exact ⟨fun h => (by cases h), fun h => by rw [zH.2 h.line] at e8; cases e8⟩
 cases e9 : (decide ((0 : Int) ≤ m.2.2.2.2.2.2.2.2.2.1) && decide (m.2.2.2.2.2.2.2.2.2.1 ≤ ((cF m.2.2.2.1 : Nat) : Int)))
 · rw [e5, e6, e8, e9] at k1; injection k1 with k1; injection k1 with k1 _; subst k1; exact ⟨fun h => (by cases h), fun h => by rw [zH.2 h.heard] at e9; cases e9⟩
 rw [e5, e6, e8, e9] at k1; obtain ⟨t3, t4, t5, t6⟩ := t2.1 rfl; have mk : (Blank (m.2.2.2.2.2.2.2.2.2.2.1, m.2.2.2.2.2.2.2.2.2.2.2.1, m.2.2.2.2.2.2.2.2.2.2.2.2.1, m.2.2.2.2.2.2.2.2.2.2.2.2.2.1, m.2.2.2.2.2.2.2.2.2.2.2.2.2.2.1, m.2.2.2.2.2.2.2.2.2.2.2.2.2.2.2.1, ()) ∨ Bp (m.2.2.2.2.2.2.2.2.2.2.1, m.2.2.2.2.2.2.2.2.2.2.2.1, m.2.2.2.2.2.2.2.2.2.2.2.2.1, m.2.2.2.2.2.2.2.2.2.2.2.2.2.1, m.2.2.2.2.2.2.2.2.2.2.2.2.2.2.1, m.2.2.2.2.2.2.2.2.2.2.2.2.2.2.2.1, ())) → sE m := fun hl => ⟨r3.1 e1, e2, i3.1 e3, ⟨t3, t4⟩, t5, t6, wE e5, wE e6, wE e8, wE e9, hl⟩
 cases WW : pG (m.2.2.2.2.2.2.2.2.2.2.1, m.2.2.2.2.2.2.2.2.2.2.2.1, m.2.2.2.2.2.2.2.2.2.2.2.2.1, m.2.2.2.2.2.2.2.2.2.2.2.2.2.1, m.2.2.2.2.2.2.2.2.2.2.2.2.2.2.1, m.2.2.2.2.2.2.2.2.2.2.2.2.2.2.2.1, ())
 · rw [WW] at k1
   cases WX : B4 (m.2.2.2.2.2.2.2.2.2.2.1, m.2.2.2.2.2.2.2.2.2.2.2.1, m.2.2.2.2.2.2.2.2.2.2.2.2.1, m.2.2.2.2.2.2.2.2.2.2.2.2.2.1, m.2.2.2.2.2.2.2.2.2.2.2.2.2.2.1, m.2.2.2.2.2.2.2.2.2.2.2.2.2.2.2.1, ())
   · rw [WX] at k1; injection k1 with k1; injection k1 with k1 _; subst k1; refine ⟨fun h => (by cases h), fun h => ?_⟩; rcases h.last with q | q
     · rw [z3.2 q] at WW; cases WW
     · rw [w3.2 q] at WX; cases WX
   · rw [WX] at k1; injection k1 with k1; injection k1 with k1 _; subst k1; exact ⟨fun _ => mk (.inr (w3.1 WX)), fun _ => rfl⟩
 · rw [WW] at k1; injection k1 with k1; injection k1 with k1 _; subst k1; exact ⟨fun _ => mk (.inl (z3.1 WW)), fun _ => rfl⟩
theorem sE.small {m : ew} (h : sE m) : zw m ≤ 5000 := by
 have h1 := cA _ h.items; have h2 := zg _ h.short; have h3 := h.texts; have h4 := h.ring.2.1; have h5 : m.2.2.2.2.2.2.2.2.2.2.2.2.2.2.2.1.length ≤ 20 := by
   rcases h.last with q | q
   · rw [show m.2.2.2.2.2.2.2.2.2.2.2.2.2.2.2.1 = [] from q.2.2.2.2.2]; exact Nat.zero_le _
   · exact q.2.2.2.2.2.1
 unfold zw; rw [uI D2 (fun _ => rfl), uI D2 (fun _ => rfl), uI D2 (fun _ => rfl)]; omega
def kP : aM → dx → aM
 | [], m => [m]
 | r :: xs, m => if r.1 < m.1 then r :: kP xs m else if r.1 = m.1 then r :: xs else m :: r :: xs
def JK (xs : aM) : Prop := xs.Pairwise fun a b => a.1 < b.1
def jJ (xs : aM) (m : dx) : Nat := (xs.takeWhile fun r => decide (r.1 < m.1)).length
theorem Ol (xs : aM) (m : dx) : jJ xs m ≤ xs.length := (List.takeWhile_sublist _).length_le
theorem yp (r : dx) (xs : aM) (m : dx) : jJ (r :: xs) m = if r.1 < m.1 then jJ xs m + 1 else 0 := by
 unfold jJ; rw [List.takeWhile_cons]
 by_cases h : r.1 < m.1
 · simp [h]
 · simp [h]
theorem Fu (m : dx) : (xs : aM) → kP xs m = if h : jJ xs m < xs.length then (if xs[jJ xs m].1 = m.1 then xs else xs.take (jJ xs m) ++ ([m] ++ xs.drop (jJ xs m))) else xs.take (jJ xs m) ++ ([m] ++ xs.drop (jJ xs m))
 | [] => rfl
 | r :: xs => by
   have ih := Fu m xs; unfold kP
   by_cases h : r.1 < m.1
   · rw [if_pos h, ih]; have hp : jJ (r :: xs) m = jJ xs m + 1 := by rw [yp, if_pos h]
     by_cases h2 : jJ xs m < xs.length
     · have h3 : jJ (r :: xs) m < (r :: xs).length := by rw [hp, List.length_cons]; omega
       rw [dif_pos h2, dif_pos h3]; have e : (r :: xs)[jJ (r :: xs) m] = xs[jJ xs m] := by simp [hp]
       rw [e]
       by_cases h4 : xs[jJ xs m].1 = m.1
       · rw [if_pos h4, if_pos h4]
       · rw [if_neg h4, if_neg h4, hp]; rfl
     · have h3 : ¬ jJ (r :: xs) m < (r :: xs).length := by rw [hp, List.length_cons]; omega
       rw [dif_neg h2, dif_neg h3, hp]; rfl
   · rw [if_neg h]; have hp : jJ (r :: xs) m = 0 := by rw [yp, if_neg h]
     have h3 : jJ (r :: xs) m < (r :: xs).length := by rw [hp, List.length_cons]; omega
     rw [dif_pos h3]; have e : (r :: xs)[jJ (r :: xs) m] = r := by simp [hp]
     rw [e, hp]; rfl
theorem ML {xs : aM} (h : gF xs xs.length) : JK xs := by
 have key : ∀ (d i : Nat) (hi : i + d + 1 < xs.length), xs[i].1 < xs[i + d + 1].1 := by
   intro d
   induction d with
   | zero => intro i hi; exact (h (i + 1) hi hi).2 (by omega)
   | succ d ih =>
     intro i hi; have h1 := ih i (by omega); have h2 := (h (i + (d + 1) + 1) hi hi).2 (by omega); have e : i + (d + 1) + 1 - 1 = i + d + 1 := by omega
     simp only [e] at h2; omega
 unfold JK; rw [List.pairwise_iff_getElem]; intro i j hi hj NM; have := key (j - i - 1) i (by omega); simpa [show i + (j - i - 1) + 1 = j by omega] using this
theorem MM {xs : aM} (h : JK xs) (hi : ∀ r ∈ xs, jX r) : gF xs xs.length := by
 intro k hk _; refine ⟨hi _ (List.getElem_mem hk), fun h0 => ?_⟩; unfold JK at h; rw [List.pairwise_iff_getElem] at h; exact h (k - 1) k (by omega) hk (by omega)
theorem yr {xs : aM} (h : gF xs xs.length) : ∀ r ∈ xs, jX r := by
 intro r hr; obtain ⟨k, hk, rfl⟩ := List.mem_iff_getElem.1 hr; exact (h k hk hk).1
theorem uk {r m : dx} : {xs : aM} → r ∈ kP xs m → r = m ∨ r ∈ xs
 | [], h => by
   unfold kP at h; exact .inl (List.mem_singleton.1 h)
 | x :: xs, h => by
   unfold kP at h
   split at h
   · rcases List.mem_cons.1 h with rfl | h
     · exact .inr List.mem_cons_self
     · exact (uk h).imp id (List.mem_cons_of_mem _)
   · split at h
     · exact .inr h
     · rcases List.mem_cons.1 h with rfl | h
       · exact .inl rfl
       · exact .inr h
theorem Fv {m : dx} : {xs : aM} → JK xs → JK (kP xs m)
 | [], _ => by unfold kP JK; simp
 | x :: xs, h => by
   unfold JK at h; rw [List.pairwise_cons] at h; unfold kP
   split
   · rename_i bP; unfold JK; rw [List.pairwise_cons]; refine ⟨fun y hy => ?_, Fv h.2⟩; rcases uk hy with rfl | hy
     · exact bP
     · exact h.1 y hy
   · split
     · unfold JK; rw [List.pairwise_cons]; exact h
     · unfold JK; rw [List.pairwise_cons, List.pairwise_cons]; refine ⟨fun y hy => ?_, h⟩; rcases List.mem_cons.1 hy with rfl | hy
       · omega
       · have := h.1 y hy; omega
theorem Br {xs : aM} {m : dx} (h : gF xs xs.length) (hm : jX m) : gF (kP xs m) (kP xs m).length :=
 MM (Fv (ML h)) fun r hr => (uk hr).elim (fun e => e ▸ hm) (yr h r)
def kJ (xs : aM) (m : dx) : aM := xs.filter fun r => decide (r.1 < m.1)
def pH (xs : aM) (m : dx) : aM := xs.filter fun r => decide (m.1 < r.1)
def xJ (xs : aM) (s : Int) : Bool := xs.any fun r => decide (r.1 = s)
theorem zi (m : dx) : (xs : aM) → JK xs → kP xs m = bif xJ xs m.1 then xs else kJ xs m ++ [m] ++ pH xs m
 | [], _ => rfl
 | r :: xs, h => by
   unfold JK at h; rw [List.pairwise_cons] at h; have ih := zi m xs h.2; unfold kP
   by_cases h1 : r.1 < m.1
   · rw [if_pos h1, ih]; have e1 : xJ (r :: xs) m.1 = xJ xs m.1 := by unfold xJ; rw [List.any_cons, ai (show ¬ r.1 = m.1 by omega)]; rfl
     have e2 : kJ (r :: xs) m = r :: kJ xs m := by unfold kJ; rw [List.filter_cons, if_pos (ah h1)]
     have e3 : pH (r :: xs) m = pH xs m := by unfold pH; rw [List.filter_cons, if_neg (by rw [decide_eq_true_eq]; omega)]
     rw [e1, e2, e3]
     cases xJ xs m.1 <;> rfl
   · rw [if_neg h1]
     by_cases h2 : r.1 = m.1
     · have e1 : xJ (r :: xs) m.1 = true := by unfold xJ; rw [List.any_cons, ah h2]; rfl
       rw [if_pos h2, e1]; rfl
     · rw [if_neg h2]; have oS : ∀ y ∈ r :: xs, m.1 < y.1 := by
         intro y hy; rcases List.mem_cons.1 hy with rfl | hy
         · omega
         · have := h.1 y hy; omega
       have e1 : xJ (r :: xs) m.1 = false := by
         unfold xJ; rw [List.any_eq_false]; intro y hy; have := oS y hy; rw [decide_eq_true_eq]; omega
       have e2 : kJ (r :: xs) m = [] := by
         unfold kJ; rw [List.filter_eq_nil_iff]; intro y hy; have := oS y hy; rw [decide_eq_true_eq]; omega
       have e3 : pH (r :: xs) m = r :: xs := by
         unfold pH; rw [List.filter_eq_self]; intro y hy; exact ah (oS y hy)
       rw [e1, e2, e3]; rfl
theorem xK (xs : aM) (m : dx) (h : xs.length ≤ 1048576) (hi : qA xs = true) (hm : xI m = true) : gh xs m.1 m.2.1 m.2.2.1 m.2.2.2.1 = some (kP xs m, ()) := by
 obtain ⟨k1, _, k3⟩ := ug xs h; obtain ⟨q1, _, _⟩ := zG m; have hs := ML (k3.1 hi); have hlen : ∀ k, (kJ (xs.take k) m).length ≤ k := fun k => Nat.le_trans (List.length_filter_le _ _) (by rw [List.length_take]; omega)
 have E7 : ∀ k, (pH (xs.take k) m).length ≤ k := fun k => Nat.le_trans (List.length_filter_le _ _) (by rw [List.length_take]; omega)
 have l1 := qP (round := fK) (n := xs.length) (fun k => (xs, m.1, m.2.1, m.2.2.1, m.2.2.2.1, xs, kJ (xs.take k) m, ((k : Nat) : Int), ())) (fun k => some (bif xJ (xs.drop k) m.1 then .inr (xs, ()) else .inl (xs, m.1, m.2.1, m.2.2.1, m.2.2.2.1, kJ xs m, ())))
   ⟨.inl (xs, m.1, m.2.1, m.2.2.1, m.2.2.2.1, kJ xs m, ()), by simp only [fK, nb, aF, cond_false, List.take_length], by rw [List.drop_length]; rfl⟩ (fun k hk => by
     have e : xJ (xs.drop k) m.1 = (decide (xs[k].1 = m.1) || xJ (xs.drop (k + 1)) m.1) := by unfold xJ; rw [List.drop_eq_getElem_cons hk, List.any_cons]
     have e2 : kJ (xs.take (k + 1)) m = kJ (xs.take k) m ++ (if decide (xs[k].1 < m.1) = true then [xs[k]] else []) := by
       unfold kJ; rw [List.take_succ_eq_append_getElem hk, List.filter_append, List.filter_cons]
       split <;> rfl
     have hb : Nat.ble (((kJ (xs.take k) m).length + 1) * 40) lim = true := aH (by have := hlen k; unfold lim; omega); simp only [fK, nb, az hk, aq, cond_true, aC, List.getElem?_eq_getElem hk, Option.bind_some, aJ (show k < 4611686018427387904 by omega), hb, e, e2]
     by_cases h1 : xs[k].1 = m.1
     · rw [ah h1]; exact .inl ⟨_, rfl, rfl⟩
     · rw [ai h1]; refine .inr ⟨?_, rfl⟩
       by_cases h2 : xs[k].1 < m.1
       · rw [ah h2]; rfl
       · rw [ai h2, if_neg (by decide), List.append_nil]; rfl) 0 (Nat.zero_le _)
 have l1 : aE fK (xs, m.1, m.2.1, m.2.2.1, m.2.2.2.1, xs, [], (0 : Int), ()) = _ := l1; rw [List.drop_zero] at l1; have l2 := ee (round := eX) (e := .inl (kJ xs m ++ [m] ++ pH xs m, ())) xs.length (fun k => (xs, m.1, m.2.1, m.2.2.1, m.2.2.2.1, kJ xs m ++ [m] ++ pH (xs.take k) m, ((k : Nat) : Int), ())) (by
   simp only [eX, nc, aF, cond_false, List.take_length]) (fun k hk => by
     have e2 : pH (xs.take (k + 1)) m = pH (xs.take k) m ++ (if decide (m.1 < xs[k].1) = true then [xs[k]] else []) := by
       unfold pH; rw [List.take_succ_eq_append_getElem hk, List.filter_append, List.filter_cons]
       split <;> rfl
     have hb : Nat.ble (((kJ xs m ++ [m] ++ pH (xs.take k) m).length + 1) * 40) lim = true := aH (by
       have h1 := hlen xs.length; rw [List.take_length] at h1; have h2 := E7 k; simp only [List.length_append, List.length_cons, List.length_nil]; unfold lim; omega)
     simp only [eX, nc, az hk, aq, cond_true, aC, List.getElem?_eq_getElem hk, Option.bind_some, aJ (show k < 4611686018427387904 by omega), hb, e2]
     by_cases h2 : m.1 < xs[k].1
     · rw [ah h2, if_pos rfl, ← List.append_assoc]; rfl
     · rw [ai h2, if_neg (by decide), List.append_nil]; rfl)
 have l2 : aE eX (xs, m.1, m.2.1, m.2.2.1, m.2.2.2.1, kJ xs m ++ [m] ++ pH (xs.take 0) m, (0 : Int), ()) = _ := l2; rw [show pH (xs.take 0) m = [] from rfl, List.append_nil] at l2; have Ng : Nat.ble ((0 + xs.length) * 40) lim = true := aH (by unfold lim; omega); have Gl : Nat.ble (((kJ xs m).length + 1) * 40) lim = true := aH (by
   have h1 := hlen xs.length; rw [List.take_length] at h1; unfold lim; omega)
 rw [zi m xs hs]; unfold gh; simp only [k1, q1, hi, hm, Ng, cond_true, Bool.not_true, cond_false, Option.bind_some, List.nil_append, l1]
 cases xJ xs m.1
 · have l3 : aE eX (xs, m.1, m.2.1, m.2.2.1, m.2.2.2.1, kJ xs m ++ [(m.1, m.2.1, m.2.2.1, m.2.2.2.1, ())], (0 : Int), ()) = _ := l2; simp only [cond_false, cj, Option.bind_some, Gl, cond_true, l3]
 · rfl
theorem xL (xs : aM) (m : dx) (h : xs.length ≤ 1048576) : lx xs m.1 m.2.1 m.2.2.1 m.2.2.2.1 = some (kP xs m, ()) := by
 have l1 := qP (round := fR) (n := xs.length) (fun k => (xs, m.1, m.2.1, m.2.2.1, m.2.2.2.1, ((k : Nat) : Int), ())) (fun k => some (.inl (xs, m.1, m.2.1, m.2.2.1, m.2.2.2.1, ((k + jJ (xs.drop k) m : Nat) : Int), ())))
   ⟨.inl (xs, m.1, m.2.1, m.2.2.1, m.2.2.2.1, ((xs.length : Nat) : Int), ()), by simp only [fR, nI, aF, cond_false], by rw [List.drop_length]; rfl⟩ (fun k hk => by
     have e : jJ (xs.drop k) m = if xs[k].1 < m.1 then jJ (xs.drop (k + 1)) m + 1 else 0 := by rw [List.drop_eq_getElem_cons hk, yp]
     simp only [fR, nI, az hk, aq, cond_true, aC, my hk, List.getElem?_eq_getElem hk, Option.bind_some, aJ (show k < 4611686018427387904 by omega), e]
     by_cases h1 : xs[k].1 < m.1
     · rw [ah h1, if_pos h1]; exact .inr ⟨rfl, by rw [show k + (jJ (xs.drop (k + 1)) m + 1) = k + 1 + jJ (xs.drop (k + 1)) m by omega]⟩
     · rw [ai h1, if_neg h1]; exact .inl ⟨_, rfl, rfl⟩) 0 (Nat.zero_le _)
 have l1 : aE fR (xs, m.1, m.2.1, m.2.2.1, m.2.2.2.1, (0 : Int), ()) = _ := l1; rw [List.drop_zero, Nat.zero_add] at l1; have hp := Ol xs m; have aa5 : Fp xs ((jJ xs m : Nat) : Int) [(m.1, m.2.1, m.2.2.1, m.2.2.2.1, ())] = some (xs.take (jJ xs m) ++ ([m] ++ xs.drop (jJ xs m)), ()) := by
   unfold Fp; rw [aq, ah (show ((jJ xs m : Nat) : Int) ≤ ((xs.length : Nat) : Int) by omega), aH (show (xs.length + 1) * 40 ≤ lim by unfold lim; omega)]; rfl
 rw [Fu]; unfold lx; simp only [l1, cj, aa5, Option.bind_some]
 by_cases h1 : jJ xs m < xs.length
 · simp only [dif_pos h1, az h1, aq, aC, my h1, cond_true, List.getElem?_eq_getElem h1, Option.bind_some]
   by_cases h2 : xs[jJ xs m].1 = m.1
   · rw [ah h2, if_pos h2]; rfl
   · rw [ai h2, if_neg h2]; rfl
 · rw [dif_neg h1, ai (show ¬ ((jJ xs m : Nat) : Int) < ((xs.length : Nat) : Int) by omega)]; rfl
noncomputable def MN (xs : aM) (m : dx) : aM := bif qA xs && xI m then kP xs m else xs
theorem DK (xs : aM) (m : dx) (h : xs.length ≤ 1048576) : gh xs m.1 m.2.1 m.2.2.1 m.2.2.2.1 = some (MN xs m, ()) ∧ so xs m.1 m.2.1 m.2.2.1 m.2.2.2.1 = some (MN xs m, ()) := by
 obtain ⟨k1, k2, _⟩ := ug xs h; obtain ⟨q1, q2, _⟩ := zG m; have Ng : Nat.ble ((0 + xs.length) * 40) lim = true := aH (by unfold lim; omega); unfold MN
 constructor
 · cases hi : qA xs
   · unfold gh; simp only [k1, hi, Ng, cond_true, Option.bind_some]; rfl
   · cases hm : xI m
     · unfold gh; simp only [k1, q1, hi, hm, Ng, cond_true, Option.bind_some]; rfl
     · exact xK xs m h hi hm
 · unfold so; simp only [k2, q2, zh xs h, Option.bind_some, xL xs m h]
   cases qA xs <;> cases xI m <;> rfl
def oG (m : ew) (xs : aM) : ew := (m.1, m.2.1, m.2.2.1, xs, m.2.2.2.2)
noncomputable def Bs (m : ew) (x : dx) : ew := bif u0 m then oG m (MN m.2.2.2.1 x) else m
theorem Hw (m : ew) (x : dx) (h : zw m ≤ 1048576) : pb m.1 m.2.1 m.2.2.1 m.2.2.2.1 m.2.2.2.2.1 m.2.2.2.2.2.1 m.2.2.2.2.2.2.1 m.2.2.2.2.2.2.2.1 m.2.2.2.2.2.2.2.2.1 m.2.2.2.2.2.2.2.2.2.1 m.2.2.2.2.2.2.2.2.2.2.1 m.2.2.2.2.2.2.2.2.2.2.2.1 m.2.2.2.2.2.2.2.2.2.2.2.2.1 m.2.2.2.2.2.2.2.2.2.2.2.2.2.1 m.2.2.2.2.2.2.2.2.2.2.2.2.2.2.1 m.2.2.2.2.2.2.2.2.2.2.2.2.2.2.2.1 x.1 x.2.1 x.2.2.1 x.2.2.2.1 = some (Bs m x) ∧ Bf m.1 m.2.1 m.2.2.1 m.2.2.2.1 m.2.2.2.2.1 m.2.2.2.2.2.1 m.2.2.2.2.2.2.1 m.2.2.2.2.2.2.2.1 m.2.2.2.2.2.2.2.2.1 m.2.2.2.2.2.2.2.2.2.1 m.2.2.2.2.2.2.2.2.2.2.1 m.2.2.2.2.2.2.2.2.2.2.2.1 m.2.2.2.2.2.2.2.2.2.2.2.2.1 m.2.2.2.2.2.2.2.2.2.2.2.2.2.1 m.2.2.2.2.2.2.2.2.2.2.2.2.2.2.1 m.2.2.2.2.2.2.2.2.2.2.2.2.2.2.2.1 x.1 x.2.1 x.2.2.1 x.2.2.2.1 = some (Bs m x) := by
 obtain ⟨k1, k2, _⟩ := sF m h; obtain ⟨p1, p2⟩ := kI m.1 m.2.1 m.2.2.1 m.2.2.2.1 m.2.2.2.2.1 m.2.2.2.2.2.1 m.2.2.2.2.2.2.1 m.2.2.2.2.2.2.2.1 m.2.2.2.2.2.2.2.2.1 m.2.2.2.2.2.2.2.2.2.1 m.2.2.2.2.2.2.2.2.2.2.1 m.2.2.2.2.2.2.2.2.2.2.2.1 m.2.2.2.2.2.2.2.2.2.2.2.2.1 m.2.2.2.2.2.2.2.2.2.2.2.2.2.1 m.2.2.2.2.2.2.2.2.2.2.2.2.2.2.1 m.2.2.2.2.2.2.2.2.2.2.2.2.2.2.2.1 h; have hl : m.2.2.2.1.length ≤ 1048576 := by unfold zw at h; omega
 obtain ⟨q1, q2⟩ := DK m.2.2.2.1 x hl; unfold Bs
 constructor
 · unfold pb; simp only [p1, k1, q1, Option.bind_some]
   cases u0 m <;> rfl
 · unfold Bf; simp only [p2, k2, q2, Option.bind_some]
   cases u0 m <;> rfl
def qh (xs : aM) (s : Int) : dx := ((mi (cT xs s)).1, (mi (cT xs s)).2.1, (mi (cT xs s)).2.2.1, (mi (cT xs s)).2.2.2.1, ())
def fF (xs : aM) (h : Int) (k : Nat) : aM := (List.range k).map fun j => qh xs (h + ((j + 1 : Nat) : Int))
theorem sG (xs : aM) (h : Int) (k : Nat) : (fF xs h k).length = k := by simp [fF]
theorem qi (xs : aM) (h : Int) (k : Nat) : fF xs h (k + 1) = fF xs h k ++ [qh xs (h + ((k + 1 : Nat) : Int))] := by
 unfold fF; rw [List.range_succ, List.map_append]; rfl
def xM (xs : aM) (line s : Int) : Prop := (qh xs s).2.2.1 = 2 ∧ line < (qh xs s).1
theorem MO (m : ew) (h0 : zw m ≤ 1048576) : ∃ (k : Nat) (v : Int), oD m.1 m.2.1 m.2.2.1 m.2.2.2.1 m.2.2.2.2.1 m.2.2.2.2.2.1 m.2.2.2.2.2.2.1 m.2.2.2.2.2.2.2.1 m.2.2.2.2.2.2.2.2.1 m.2.2.2.2.2.2.2.2.2.1 m.2.2.2.2.2.2.2.2.2.2.1 m.2.2.2.2.2.2.2.2.2.2.2.1 m.2.2.2.2.2.2.2.2.2.2.2.2.1 m.2.2.2.2.2.2.2.2.2.2.2.2.2.1 m.2.2.2.2.2.2.2.2.2.2.2.2.2.2.1 m.2.2.2.2.2.2.2.2.2.2.2.2.2.2.2.1 = some (m.1, m.2.1, m.2.2.1, m.2.2.2.1, m.2.2.2.2.1, m.2.2.2.2.2.1, m.2.2.2.2.2.2.1, m.2.2.2.2.2.2.2.1, m.2.2.2.2.2.2.2.2.1, v, m.2.2.2.2.2.2.2.2.2.2.1, m.2.2.2.2.2.2.2.2.2.2.2.1, m.2.2.2.2.2.2.2.2.2.2.2.2.1, m.2.2.2.2.2.2.2.2.2.2.2.2.2.1, m.2.2.2.2.2.2.2.2.2.2.2.2.2.2.1, m.2.2.2.2.2.2.2.2.2.2.2.2.2.2.2.1, fF m.2.2.2.1 m.2.2.2.2.2.2.2.2.2.1 k, ()) ∧ l6 m.1 m.2.1 m.2.2.1 m.2.2.2.1 m.2.2.2.2.1 m.2.2.2.2.2.1 m.2.2.2.2.2.2.1 m.2.2.2.2.2.2.2.1 m.2.2.2.2.2.2.2.2.1 m.2.2.2.2.2.2.2.2.2.1 m.2.2.2.2.2.2.2.2.2.2.1 m.2.2.2.2.2.2.2.2.2.2.2.1 m.2.2.2.2.2.2.2.2.2.2.2.2.1 m.2.2.2.2.2.2.2.2.2.2.2.2.2.1 m.2.2.2.2.2.2.2.2.2.2.2.2.2.2.1 m.2.2.2.2.2.2.2.2.2.2.2.2.2.2.2.1 = some (m.1, m.2.1, m.2.2.1, m.2.2.2.1, m.2.2.2.2.1, m.2.2.2.2.2.1, m.2.2.2.2.2.2.1, m.2.2.2.2.2.2.2.1, m.2.2.2.2.2.2.2.2.1, v, m.2.2.2.2.2.2.2.2.2.2.1, m.2.2.2.2.2.2.2.2.2.2.2.1, m.2.2.2.2.2.2.2.2.2.2.2.2.1, m.2.2.2.2.2.2.2.2.2.2.2.2.2.1, m.2.2.2.2.2.2.2.2.2.2.2.2.2.2.1, m.2.2.2.2.2.2.2.2.2.2.2.2.2.2.2.1, fF m.2.2.2.1 m.2.2.2.2.2.2.2.2.2.1 k, ()) ∧ v = m.2.2.2.2.2.2.2.2.2.1 + ((k : Nat) : Int) ∧
   (u0 m = false → k = 0) ∧ (u0 m = true → v ≤ ((cF m.2.2.2.1 : Nat) : Int) ∧ (∀ j, j < k → ¬ xM m.2.2.2.1 m.2.2.2.2.2.2.2.2.1 (m.2.2.2.2.2.2.2.2.2.1 + ((j + 1 : Nat) : Int))) ∧ (v < ((cF m.2.2.2.1 : Nat) : Int) → xM m.2.2.2.1 m.2.2.2.2.2.2.2.2.1 (m.2.2.2.2.2.2.2.2.2.1 + ((k + 1 : Nat) : Int)))) := by
 obtain ⟨k1, k2, k3⟩ := sF m h0; obtain ⟨p1, p2⟩ := kI m.1 m.2.1 m.2.2.1 m.2.2.2.1 m.2.2.2.2.1 m.2.2.2.2.2.1 m.2.2.2.2.2.2.1 m.2.2.2.2.2.2.2.1 m.2.2.2.2.2.2.2.2.1 m.2.2.2.2.2.2.2.2.2.1 m.2.2.2.2.2.2.2.2.2.2.1 m.2.2.2.2.2.2.2.2.2.2.2.1 m.2.2.2.2.2.2.2.2.2.2.2.2.1 m.2.2.2.2.2.2.2.2.2.2.2.2.2.1 m.2.2.2.2.2.2.2.2.2.2.2.2.2.2.1 m.2.2.2.2.2.2.2.2.2.2.2.2.2.2.2.1 h0; unfold oD l6; simp only [k1, k2, p1, p2, Option.bind_some]
 cases hb : u0 m
 · exact ⟨0, m.2.2.2.2.2.2.2.2.2.1, rfl, rfl, by omega, (fun _ => rfl), (fun h => by cases h)⟩
 have hm := k3.1 hb; have hit := cA m.2.2.2.1 hm.items; have hl : m.2.2.2.1.length ≤ 1048576 := by omega
 obtain ⟨a1, a2, a3⟩ := uj m.2.2.2.1 hl; have hh := hm.heard; generalize hn : cF m.2.2.2.1 = n at a1 a2 a3 hh; have agd : n ≤ 60 := Nat.le_trans a3.1 hit.1; obtain ⟨e, f, g1, g2, k, v, g3, g4, g5, g6, g7, g8⟩ : ∃ e f, aE lg (m.1, m.2.1, m.2.2.1, m.2.2.2.1, m.2.2.2.2.1, m.2.2.2.2.2.1, m.2.2.2.2.2.2.1, m.2.2.2.2.2.2.2.1, m.2.2.2.2.2.2.2.2.1, m.2.2.2.2.2.2.2.2.2.1, m.2.2.2.2.2.2.2.2.2.2.1, m.2.2.2.2.2.2.2.2.2.2.2.1, m.2.2.2.2.2.2.2.2.2.2.2.2.1, m.2.2.2.2.2.2.2.2.2.2.2.2.2.1, m.2.2.2.2.2.2.2.2.2.2.2.2.2.2.1, m.2.2.2.2.2.2.2.2.2.2.2.2.2.2.2.1, (0 : Int), (0 : Int), [], [], [], [], (0 : Int), (0 : Int), (0 : Int), (0 : Int), (0 : Int), (0 : Int), (0 : Int), (0 : Int), (0 : Int), [], m.1, m.2.1, m.2.2.1, m.2.2.2.1, m.2.2.2.2.1, m.2.2.2.2.2.1, m.2.2.2.2.2.2.1, m.2.2.2.2.2.2.2.1, m.2.2.2.2.2.2.2.2.1, m.2.2.2.2.2.2.2.2.2.1, m.2.2.2.2.2.2.2.2.2.2.1, m.2.2.2.2.2.2.2.2.2.2.2.1, m.2.2.2.2.2.2.2.2.2.2.2.2.1, m.2.2.2.2.2.2.2.2.2.2.2.2.2.1, m.2.2.2.2.2.2.2.2.2.2.2.2.2.2.1, m.2.2.2.2.2.2.2.2.2.2.2.2.2.2.2.1, [], ((n : Nat) : Int), ()) = some e ∧ aE lq (m.1, m.2.1, m.2.2.1, m.2.2.2.1, m.2.2.2.2.1, m.2.2.2.2.2.1, m.2.2.2.2.2.2.1, m.2.2.2.2.2.2.2.1, m.2.2.2.2.2.2.2.2.1, m.2.2.2.2.2.2.2.2.2.1, m.2.2.2.2.2.2.2.2.2.2.1, m.2.2.2.2.2.2.2.2.2.2.2.1, m.2.2.2.2.2.2.2.2.2.2.2.2.1, m.2.2.2.2.2.2.2.2.2.2.2.2.2.1, m.2.2.2.2.2.2.2.2.2.2.2.2.2.2.1, m.2.2.2.2.2.2.2.2.2.2.2.2.2.2.2.1, (0 : Int), (0 : Int), [], [], [], [], (0 : Int), (0 : Int), (0 : Int), (0 : Int), (0 : Int), (0 : Int), (0 : Int), (0 : Int), (0 : Int), [], m.1, m.2.1, m.2.2.1, m.2.2.2.1, m.2.2.2.2.1, m.2.2.2.2.2.1, m.2.2.2.2.2.2.1, m.2.2.2.2.2.2.2.1, m.2.2.2.2.2.2.2.2.1, m.2.2.2.2.2.2.2.2.2.1, m.2.2.2.2.2.2.2.2.2.2.1, m.2.2.2.2.2.2.2.2.2.2.2.1, m.2.2.2.2.2.2.2.2.2.2.2.2.1, m.2.2.2.2.2.2.2.2.2.2.2.2.2.1, m.2.2.2.2.2.2.2.2.2.2.2.2.2.2.1, m.2.2.2.2.2.2.2.2.2.2.2.2.2.2.2.1, [], ()) = some f ∧
     ∃ (k : Nat) (v : Int), (e = .inl ((0 : Int), (0 : Int), [], [], [], [], (0 : Int), (0 : Int), (0 : Int), (0 : Int), (0 : Int), (0 : Int), (0 : Int), (0 : Int), (0 : Int), [], m.1, m.2.1, m.2.2.1, m.2.2.2.1, m.2.2.2.2.1, m.2.2.2.2.2.1, m.2.2.2.2.2.2.1, m.2.2.2.2.2.2.2.1, m.2.2.2.2.2.2.2.2.1, v, m.2.2.2.2.2.2.2.2.2.2.1, m.2.2.2.2.2.2.2.2.2.2.2.1, m.2.2.2.2.2.2.2.2.2.2.2.2.1, m.2.2.2.2.2.2.2.2.2.2.2.2.2.1, m.2.2.2.2.2.2.2.2.2.2.2.2.2.2.1, m.2.2.2.2.2.2.2.2.2.2.2.2.2.2.2.1, fF m.2.2.2.1 m.2.2.2.2.2.2.2.2.2.1 k, ()) ∨ e = .inr (m.1, m.2.1, m.2.2.1, m.2.2.2.1, m.2.2.2.2.1, m.2.2.2.2.2.1, m.2.2.2.2.2.2.1, m.2.2.2.2.2.2.2.1, m.2.2.2.2.2.2.2.2.1, v, m.2.2.2.2.2.2.2.2.2.2.1, m.2.2.2.2.2.2.2.2.2.2.2.1, m.2.2.2.2.2.2.2.2.2.2.2.2.1, m.2.2.2.2.2.2.2.2.2.2.2.2.2.1, m.2.2.2.2.2.2.2.2.2.2.2.2.2.2.1, m.2.2.2.2.2.2.2.2.2.2.2.2.2.2.2.1, fF m.2.2.2.1 m.2.2.2.2.2.2.2.2.2.1 k, ())) ∧ f = .inl ((0 : Int), (0 : Int), [], [], [], [], (0 : Int), (0 : Int), (0 : Int), (0 : Int), (0 : Int), (0 : Int), (0 : Int), (0 : Int), (0 : Int), [], m.1, m.2.1, m.2.2.1, m.2.2.2.1, m.2.2.2.2.1, m.2.2.2.2.2.1, m.2.2.2.2.2.2.1, m.2.2.2.2.2.2.2.1, m.2.2.2.2.2.2.2.2.1, v, m.2.2.2.2.2.2.2.2.2.2.1, m.2.2.2.2.2.2.2.2.2.2.2.1, m.2.2.2.2.2.2.2.2.2.2.2.2.1, m.2.2.2.2.2.2.2.2.2.2.2.2.2.1, m.2.2.2.2.2.2.2.2.2.2.2.2.2.2.1, m.2.2.2.2.2.2.2.2.2.2.2.2.2.2.2.1, fF m.2.2.2.1 m.2.2.2.2.2.2.2.2.2.1 k, ()) ∧ v = m.2.2.2.2.2.2.2.2.2.1 + ((k : Nat) : Int) ∧ v ≤ ((n : Nat) : Int) ∧
       (∀ j, j < k → ¬ xM m.2.2.2.1 m.2.2.2.2.2.2.2.2.1 (m.2.2.2.2.2.2.2.2.2.1 + ((j + 1 : Nat) : Int))) ∧ (v < ((n : Nat) : Int) → xM m.2.2.2.1 m.2.2.2.2.2.2.2.2.1 (m.2.2.2.2.2.2.2.2.2.1 + ((k + 1 : Nat) : Int))) := by
   refine mz 60 (fun k x y => ∃ v : Int, x = (m.1, m.2.1, m.2.2.1, m.2.2.2.1, m.2.2.2.2.1, m.2.2.2.2.2.1, m.2.2.2.2.2.2.1, m.2.2.2.2.2.2.2.1, m.2.2.2.2.2.2.2.2.1, m.2.2.2.2.2.2.2.2.2.1, m.2.2.2.2.2.2.2.2.2.2.1, m.2.2.2.2.2.2.2.2.2.2.2.1, m.2.2.2.2.2.2.2.2.2.2.2.2.1, m.2.2.2.2.2.2.2.2.2.2.2.2.2.1, m.2.2.2.2.2.2.2.2.2.2.2.2.2.2.1, m.2.2.2.2.2.2.2.2.2.2.2.2.2.2.2.1, (0 : Int), (0 : Int), [], [], [], [], (0 : Int), (0 : Int), (0 : Int), (0 : Int), (0 : Int), (0 : Int), (0 : Int), (0 : Int), (0 : Int), [], m.1, m.2.1, m.2.2.1, m.2.2.2.1, m.2.2.2.2.1, m.2.2.2.2.2.1, m.2.2.2.2.2.2.1, m.2.2.2.2.2.2.2.1, m.2.2.2.2.2.2.2.2.1, v, m.2.2.2.2.2.2.2.2.2.2.1, m.2.2.2.2.2.2.2.2.2.2.2.1, m.2.2.2.2.2.2.2.2.2.2.2.2.1, m.2.2.2.2.2.2.2.2.2.2.2.2.2.1, m.2.2.2.2.2.2.2.2.2.2.2.2.2.2.1, m.2.2.2.2.2.2.2.2.2.2.2.2.2.2.2.1, fF m.2.2.2.1 m.2.2.2.2.2.2.2.2.2.1 k, ((n : Nat) : Int), ()) ∧ y = (m.1, m.2.1, m.2.2.1, m.2.2.2.1, m.2.2.2.2.1, m.2.2.2.2.2.1, m.2.2.2.2.2.2.1, m.2.2.2.2.2.2.2.1, m.2.2.2.2.2.2.2.2.1, m.2.2.2.2.2.2.2.2.2.1, m.2.2.2.2.2.2.2.2.2.2.1, m.2.2.2.2.2.2.2.2.2.2.2.1, m.2.2.2.2.2.2.2.2.2.2.2.2.1, m.2.2.2.2.2.2.2.2.2.2.2.2.2.1, m.2.2.2.2.2.2.2.2.2.2.2.2.2.2.1, m.2.2.2.2.2.2.2.2.2.2.2.2.2.2.2.1, (0 : Int), (0 : Int), [], [], [], [], (0 : Int), (0 : Int), (0 : Int), (0 : Int), (0 : Int), (0 : Int), (0 : Int), (0 : Int), (0 : Int), [], m.1, m.2.1, m.2.2.1, m.2.2.2.1, m.2.2.2.2.1, m.2.2.2.2.2.1, m.2.2.2.2.2.2.1, m.2.2.2.2.2.2.2.1, m.2.2.2.2.2.2.2.2.1, v, m.2.2.2.2.2.2.2.2.2.2.1, m.2.2.2.2.2.2.2.2.2.2.2.1, m.2.2.2.2.2.2.2.2.2.2.2.2.1, m.2.2.2.2.2.2.2.2.2.2.2.2.2.1, m.2.2.2.2.2.2.2.2.2.2.2.2.2.2.1, m.2.2.2.2.2.2.2.2.2.2.2.2.2.2.2.1, fF m.2.2.2.1 m.2.2.2.2.2.2.2.2.2.1 k, ()) ∧ v = m.2.2.2.2.2.2.2.2.2.1 + ((k : Nat) : Int) ∧ v ≤ ((n : Nat) : Int) ∧ ∀ j, j < k → ¬ xM m.2.2.2.1 m.2.2.2.2.2.2.2.2.1 (m.2.2.2.2.2.2.2.2.2.1 + ((j + 1 : Nat) : Int))) _ ?_ ⟨m.2.2.2.2.2.2.2.2.2.1, rfl, rfl, by omega, hh.2, fun j h => by omega⟩
   rintro k x y hk ⟨v, rfl, rfl, q1, q2, q3⟩
   by_cases bP : v < ((n : Nat) : Int)
   · have hw : IntKind.i64.wrap (v + (1 : Int)) = m.2.2.2.2.2.2.2.2.2.1 + ((k + 1 : Nat) : Int) := by rw [eA] <;> omega
     have hbl : Nat.ble (((fF m.2.2.2.1 m.2.2.2.2.2.2.2.2.2.1 k).length + 1) * 40) lim = true := aH (by rw [sG]; unfold lim; omega); have more : ¬ xM m.2.2.2.1 m.2.2.2.2.2.2.2.2.1 (m.2.2.2.2.2.2.2.2.2.1 + ((k + 1 : Nat) : Int)) → ∀ j, j < k + 1 → ¬ xM m.2.2.2.1 m.2.2.2.2.2.2.2.2.1 (m.2.2.2.2.2.2.2.2.2.1 + ((j + 1 : Nat) : Int)) := fun hnw j hj => by
       by_cases e : j < k
       · exact q3 j e
       · have : j = k := by omega
         subst this; exact hnw
     simp only [lg, rI, lq, sm, ah bP, a2, hw, qe m.2.2.2.1 _ hl, qf m.2.2.2.1 _ hl, Option.bind_some, cond_true, hbl]
     by_cases c1 : (mi (cT m.2.2.2.1 (m.2.2.2.2.2.2.2.2.2.1 + ((k + 1 : Nat) : Int)))).2.2.1 = 2
     · rw [ah c1]
       by_cases c2 : m.2.2.2.2.2.2.2.2.1 < (mi (cT m.2.2.2.1 (m.2.2.2.2.2.2.2.2.2.1 + ((k + 1 : Nat) : Int)))).1
       · rw [ah c2]; exact .inl ⟨_, _, rfl, rfl, k, v, .inr rfl, rfl, q1, q2, q3, fun _ => ⟨c1, c2⟩⟩
       · rw [ai c2]; exact .inr ⟨by omega, _, _, rfl, rfl, m.2.2.2.2.2.2.2.2.2.1 + ((k + 1 : Nat) : Int), by rw [qi]; rfl, by rw [qi]; rfl, rfl, by omega, more fun h => c2 h.2⟩
     · rw [ai c1]; exact .inr ⟨by omega, _, _, rfl, rfl, m.2.2.2.2.2.2.2.2.2.1 + ((k + 1 : Nat) : Int), by rw [qi]; rfl, by rw [qi]; rfl, rfl, by omega, more fun h => c1 h.1⟩
   · simp only [lg, rI, lq, sm, ai bP, a2, Option.bind_some, cond_false]; exact .inl ⟨_, _, rfl, rfl, k, v, .inl rfl, rfl, q1, q2, q3, fun h => absurd h bP⟩
 simp only [a1, Option.bind_some, Bool.not_true, cond_false]; rw [g1, g2, g4]; refine ⟨k, v, ?_, rfl, g5, (fun h => by cases h), (fun _ => ⟨by first | exact g6 | (rw [hn]; exact g6), g7, fun h => g8 (by first | exact h | (rw [hn] at h; exact h))⟩)⟩; rcases g3 with rfl | rfl
 · rfl
 · rfl
def MP {A B C : Type} (P : A → Prop) : Sum A B → Sum A C → Prop
 | .inl a, .inl b => a = b ∧ P a
 | _, _ => False
theorem DL (b9 : Int) (ca : Int) (a6 : Int) (bS : Int) (bW : Int) (bK : List (Int × Unit)) (bC : Int) (bO : List (Int × Unit)) (aG : List (ByteArray × Unit)) (h0 : List.length bK ≤ 1048576) : ∃ o0 o1 o2 o3 o4 o5 o6, mN b9 ca a6 bS bW bK bC bO aG = some (o0, o1, o2, o3, o4, o5, o6, ()) ∧ jo b9 ca a6 bS bW bK bC bO aG = some (o0, o1, o2, o3, o4, o5, o6, ()) ∧ o5 = bK ∧ (List.length o6 + wl nJ o6) ≤ 1048576 := by
 obtain ⟨b, k1, k2, k3⟩ := sC b9 ca a6 bS bW bK (by omega); obtain ⟨c1, c2⟩ := ig b9 ca a6 bS bW bK (by omega); have hm : (if (3 : Int) < ((List.length aG : Nat) : Int) then (3 : Int) else ((List.length aG : Nat) : Int)) = ((min 3 aG.length : Nat) : Int) := by split <;> omega
 unfold mN jo; simp only [k1, k2, c1, c2, mO, oE, Option.bind_some]
 cases b
 · cases (decide (1 ≤ bC) && decide (bC ≤ 5))
   · exact ⟨_, _, _, _, _, bK, [], rfl, rfl, rfl, by decide⟩
   · exact ⟨_, _, _, _, _, bK, [], rfl, rfl, rfl, by decide⟩
 cases (decide (1 ≤ bC) && decide (bC ≤ 5))
 · exact ⟨_, _, _, _, _, bK, [], rfl, rfl, rfl, by decide⟩
 obtain ⟨z1, z2, z3, z4, z5, z6⟩ := k3 rfl; have OH : (aG.take (min 3 aG.length)).length = min 3 aG.length := by simp
 simp only [Bool.not_true, cond_false, hm, aC, aq, cond_true, List.drop_zero, OH, ah (show ((min 3 aG.length : Nat) : Int) ≤ ((List.length aG : Nat) : Int) by omega)]; obtain ⟨e, f, g1, g2, g3⟩ : ∃ e f, aE gR (bC, bO, aG, b9, ca, a6, bS, bW, bK, (0 : Int), (0 : Int), (0 : Int), (0 : Int), (0 : Int), [], b9, ca, a6, bS, bW, bK, [], (0 : Int), ()) = some e ∧
     aE cz (bC, bO, b9, ca, a6, bS, bW, bK, (0 : Int), (0 : Int), (0 : Int), (0 : Int), (0 : Int), [], b9, ca, a6, bS, bW, bK, [], aG.take (min 3 aG.length), ((min 3 aG.length : Nat) : Int), (0 : Int), ()) = some f ∧
     MP (fun v => ∃ (q : Int) (l : aM), v = (b9, ca, a6, bS, bW, bK, (0 : Int), (0 : Int), (0 : Int), (0 : Int), (0 : Int), [], b9, ca, q, bS, bW, bK, l, ()) ∧ l.length ≤ 3 ∧ wl nJ l ≤ 180) e f := by
   refine mz 3 (fun k x y => ∃ l : aM, x = (bC, bO, aG, b9, ca, a6, bS, bW, bK, (0 : Int), (0 : Int), (0 : Int), (0 : Int), (0 : Int), [], b9, ca, a6 + ((k : Nat) : Int), bS, bW, bK, l, ((k : Nat) : Int), ()) ∧
     y = (bC, bO, b9, ca, a6, bS, bW, bK, (0 : Int), (0 : Int), (0 : Int), (0 : Int), (0 : Int), [], b9, ca, a6 + ((k : Nat) : Int), bS, bW, bK, l, aG.take (min 3 aG.length), ((min 3 aG.length : Nat) : Int), ((k : Nat) : Int), ()) ∧ l.length = k ∧ wl nJ l ≤ 60 * k) _ ?_ ⟨[], by rw [show a6 + ((0 : Nat) : Int) = a6 by omega]; rfl, by rw [show a6 + ((0 : Nat) : Int) = a6 by omega]; rfl, rfl, Nat.le_refl _⟩
   rintro k x y hk ⟨l, rfl, rfl, q1, q2⟩
   have stop : ∀ {A B : Type} (u : Sum _ A) (v : Sum _ B), u = .inl (b9, ca, a6, bS, bW, bK, (0 : Int), (0 : Int), (0 : Int), (0 : Int), (0 : Int), ([] : List (Int × Unit)), b9, ca, a6 + ((k : Nat) : Int), bS, bW, bK, l, ()) → v = .inl (b9, ca, a6, bS, bW, bK, (0 : Int), (0 : Int), (0 : Int), (0 : Int), (0 : Int), ([] : List (Int × Unit)), b9, ca, a6 + ((k : Nat) : Int), bS, bW, bK, l, ()) →
       MP (fun v => ∃ (q : Int) (l : aM), v = (b9, ca, a6, bS, bW, bK, (0 : Int), (0 : Int), (0 : Int), (0 : Int), (0 : Int), ([] : List (Int × Unit)), b9, ca, q, bS, bW, bK, l, ()) ∧ l.length ≤ 3 ∧ wl nJ l ≤ 180) u v := by
     intro A B u v e1 e2; subst e1 e2; exact ⟨rfl, _, l, rfl, by omega, by omega⟩
   by_cases h1 : k < aG.length
   · by_cases h4 : k < 3
     · have Sk : k < min 3 aG.length := by omega
       have zq : (aG.take (min 3 aG.length))[k]? = some aG[k] := by rw [List.getElem?_take_of_lt Sk]; exact List.getElem?_eq_getElem h1
       have e1 : IntKind.i64.wrap ((a6 + ((k : Nat) : Int)) + (1 : Int)) = a6 + ((k + 1 : Nat) : Int) := by rw [eA] <;> omega
       simp only [gR, lk, cz, eJ, az h1, az Sk, ah (show ((k : Nat) : Int) < (3 : Int) by omega), aq, cond_true, aC, List.getElem?_eq_getElem h1, zq, Option.bind_some, e1, aH (show (l.length + 1) * 40 ≤ lim by unfold lim; omega), aJ (show k < 4611686018427387904 by omega)]
       by_cases h5 : a6 + ((k : Nat) : Int) < 60
       · rw [ah h5, ai (show ¬ (60 : Int) ≤ a6 + ((k : Nat) : Int) by omega)]
         by_cases h6 : ((ByteArray.size aG[k].1 : Nat) : Int) ≤ 60
         · rw [ah h6, ai (show ¬ (60 : Int) < ((ByteArray.size aG[k].1 : Nat) : Int) by omega)]; have add : ∀ lv : Int, wl nJ (l ++ [(a6 + ((k + 1 : Nat) : Int), bC, lv, aG[k].1, ())]) ≤ 60 * (k + 1) := by
             intro lv; rw [QH]; have : wl nJ [(a6 + ((k + 1 : Nat) : Int), bC, lv, aG[k].1, ())] = ByteArray.size aG[k].1 := rfl; omega
           by_cases h7 : k < bO.length
           · rw [az h7]; simp only [cond_true, cond_false, List.getElem?_eq_getElem h7, Option.bind_some]
             cases decide (bO[k].1 = 2)
             · exact .inr ⟨h4, _, _, rfl, rfl, _, rfl, rfl, by simp [q1], add 1⟩
             · exact .inr ⟨h4, _, _, rfl, rfl, _, rfl, rfl, by simp [q1], add 2⟩
           · rw [ai (show ¬ ((k : Nat) : Int) < ((List.length bO : Nat) : Int) by omega)]; exact .inr ⟨h4, _, _, rfl, rfl, _, rfl, rfl, by simp [q1], add 1⟩
         · rw [ai h6, ah (show (60 : Int) < ((ByteArray.size aG[k].1 : Nat) : Int) by omega)]; exact .inl ⟨_, _, rfl, rfl, stop _ _ rfl rfl⟩
       · rw [ai h5, ah (show (60 : Int) ≤ a6 + ((k : Nat) : Int) by omega)]; exact .inl ⟨_, _, rfl, rfl, stop _ _ rfl rfl⟩
     · have hk3 : k = 3 := by omega
       refine .inl ⟨_, _, ?_, ?_, stop _ _ rfl rfl⟩
       · simp only [gR, lk, az h1, ai (show ¬ ((k : Nat) : Int) < (3 : Int) by omega), cond_true, cond_false]
       · simp only [cz, eJ, ai (show ¬ ((k : Nat) : Int) < ((min 3 aG.length : Nat) : Int) by omega), cond_false]
   · refine .inl ⟨_, _, ?_, ?_, stop _ _ rfl rfl⟩
     · simp only [gR, lk, ai (show ¬ ((k : Nat) : Int) < ((List.length aG : Nat) : Int) by omega), cond_false]
     · simp only [cz, eJ, ai (show ¬ ((k : Nat) : Int) < ((min 3 aG.length : Nat) : Int) by omega), cond_false]
 rw [g1, g2]
 cases e with
 | inr e => exact g3.elim
 | inl e => cases f with
   | inr f => exact g3.elim
   | inl f =>
     obtain ⟨rfl, q, l, rfl, q1, q2⟩ := g3; simp only [ir]
     cases decide (bS = a6)
     · exact ⟨_, _, _, _, _, bK, l, rfl, rfl, rfl, by omega⟩
     · cases decide (bW = 0)
       · exact ⟨_, _, _, _, _, bK, l, rfl, rfl, rfl, by omega⟩
       · exact ⟨_, _, _, _, _, bK, l, rfl, rfl, rfl, by omega⟩
def uM (c2 from_ : Int) (level : List (Int × Unit)) (texts : List (ByteArray × Unit)) (j : Nat) : dx :=
 (c2 + ((j + 1 : Nat) : Int), from_, (bif decide (j < level.length) && decide ((level.getD j ((0 : Int), ())).1 = 2) then 2 else 1), (texts.getD j (ByteArray.empty, ())).1, ())
def cU (c2 from_ : Int) (level : List (Int × Unit)) (texts : List (ByteArray × Unit)) (m : Nat) : aM := (List.range m).map (uM c2 from_ level texts)
theorem og (c2 from_ : Int) (level : List (Int × Unit)) (texts : List (ByteArray × Unit)) (m : Nat) : (cU c2 from_ level texts m).length = m := by simp [cU]
theorem B5 (c2 from_ : Int) (level : List (Int × Unit)) (texts : List (ByteArray × Unit)) (m : Nat) : cU c2 from_ level texts (m + 1) = cU c2 from_ level texts m ++ [uM c2 from_ level texts m] := by
 unfold cU; rw [List.range_succ, List.map_append]; rfl
def zI (c2 : Int) (texts : List (ByteArray × Unit)) (m : Nat) : Prop := m = min 3 texts.length ∨ 60 ≤ c2 + ((m : Nat) : Int) ∨ ∃ h : m < texts.length, 60 < ByteArray.size texts[m].1
theorem Hy (b9 : Int) (ca : Int) (a6 : Int) (bS : Int) (bW : Int) (bK : List (Int × Unit)) (bC : Int) (bO : List (Int × Unit)) (aG : List (ByteArray × Unit)) (h0 : List.length bK ≤ 1048576) (h3 : List.length aG ≤ 1048576) (hd : 1 ≤ bC ∧ bC ≤ 5) (ht : Si b9 ca a6 bS bW bK) :
   ∃ m t3, jo b9 ca a6 bS bW bK bC bO aG = some (b9, ca, a6 + ((m : Nat) : Int), t3, bW, bK, cU a6 bC bO aG m, ()) ∧ m ≤ 3 ∧ m ≤ aG.length ∧ a6 + ((m : Nat) : Int) ≤ 60 ∧ (t3 = bS ∨ t3 = a6 + ((m : Nat) : Int)) ∧ zI a6 aG m ∧ t3 = (if bS = a6 ∧ bW = 0 then a6 + ((m : Nat) : Int) else bS) := by
 obtain ⟨b, _, k2, k3⟩ := CO b9 ca a6 bS bW bK h0; have hb := k3.2 ht; subst hb; obtain ⟨_, c2⟩ := ig b9 ca a6 bS bW bK h0; obtain ⟨_, _, z2, z3, _⟩ := ht; have hm : (if (3 : Int) < ((List.length aG : Nat) : Int) then (3 : Int) else ((List.length aG : Nat) : Int)) = ((min 3 aG.length : Nat) : Int) := by split <;> omega
 have OH : (aG.take (min 3 aG.length)).length = min 3 aG.length := by simp
 unfold jo; simp only [k2, c2, oE, ah hd.1, ah hd.2, Bool.and_self, Option.bind_some, Bool.not_true, cond_false, hm, aC, aq, cond_true, List.drop_zero, OH, ah (show ((min 3 aG.length : Nat) : Int) ≤ ((List.length aG : Nat) : Int) by omega)]; have fin : ∀ (k : Nat), ∃ v : Int × Int × Int × Int × Int × (List (Int × Unit)) × Int × Int × Int × Int × Int × (List (Int × Unit)) × Int × Int × Int × Int × Int × (List (Int × Unit)) × aM × Unit, v = (b9, ca, a6, bS, bW, bK, (0 : Int), (0 : Int), (0 : Int), (0 : Int), (0 : Int), [], b9, ca, a6 + ((k : Nat) : Int), bS, bW, bK, cU a6 bC bO aG k, ()) := fun k => ⟨_, rfl⟩
 obtain ⟨e, g1, m, g2, g3, g4, g5, g6⟩ : ∃ e, aE cz (bC, bO, b9, ca, a6, bS, bW, bK, (0 : Int), (0 : Int), (0 : Int), (0 : Int), (0 : Int), [], b9, ca, a6, bS, bW, bK, [], aG.take (min 3 aG.length), ((min 3 aG.length : Nat) : Int), (0 : Int), ()) = some e ∧
     ∃ m : Nat, e = .inl (b9, ca, a6, bS, bW, bK, (0 : Int), (0 : Int), (0 : Int), (0 : Int), (0 : Int), [], b9, ca, a6 + ((m : Nat) : Int), bS, bW, bK, cU a6 bC bO aG m, ()) ∧ m ≤ 3 ∧ m ≤ aG.length ∧ a6 + ((m : Nat) : Int) ≤ 60 ∧ zI a6 aG m := by
   refine ef (min 3 aG.length) (fun k x => x = (bC, bO, b9, ca, a6, bS, bW, bK, (0 : Int), (0 : Int), (0 : Int), (0 : Int), (0 : Int), [], b9, ca, a6 + ((k : Nat) : Int), bS, bW, bK, cU a6 bC bO aG k, aG.take (min 3 aG.length), ((min 3 aG.length : Nat) : Int), ((k : Nat) : Int), ()) ∧ a6 + ((k : Nat) : Int) ≤ 60) _ ?_ ?_ ⟨by rw [show a6 + ((0 : Nat) : Int) = a6 by omega]; rfl, by omega⟩
   · rintro x ⟨rfl, q⟩
     exact ⟨_, by simp only [cz, eJ, aF, cond_false], _, rfl, by omega, by omega, q, .inl rfl⟩
   · rintro k x Sk ⟨rfl, q⟩
     have h1 : k < aG.length := by omega
     have zq : (aG.take (min 3 aG.length))[k]? = some aG[k] := by rw [List.getElem?_take_of_lt Sk]; exact List.getElem?_eq_getElem h1
     have hgt : (aG.getD k (ByteArray.empty, ())).1 = aG[k].1 := by rw [List.getD_eq_getElem?_getD, List.getElem?_eq_getElem h1, Option.getD_some]
     have stop : zI a6 aG k → ∃ m : Nat, (.inl (b9, ca, a6, bS, bW, bK, (0 : Int), (0 : Int), (0 : Int), (0 : Int), (0 : Int), [], b9, ca, a6 + ((k : Nat) : Int), bS, bW, bK, cU a6 bC bO aG k, ()) : Sum _ Unit) = .inl (b9, ca, a6, bS, bW, bK, (0 : Int), (0 : Int), (0 : Int), (0 : Int), (0 : Int), ([] : List (Int × Unit)), b9, ca, a6 + ((m : Nat) : Int), bS, bW, bK, cU a6 bC bO aG m, ()) ∧ m ≤ 3 ∧ m ≤ aG.length ∧ a6 + ((m : Nat) : Int) ≤ 60 ∧ zI a6 aG m :=
       fun hq => ⟨k, rfl, by omega, by omega, q, hq⟩
     by_cases h5 : (60 : Int) ≤ a6 + ((k : Nat) : Int)
     · refine .inl ⟨_, ?_, stop (.inr (.inl h5))⟩; simp only [cz, eJ, az Sk, aq, cond_true, aC, zq, Option.bind_some, ah h5]
     have e1 : IntKind.i64.wrap ((a6 + ((k : Nat) : Int)) + (1 : Int)) = a6 + ((k + 1 : Nat) : Int) := by rw [eA] <;> omega
     by_cases h6 : (60 : Int) < ((ByteArray.size aG[k].1 : Nat) : Int)
     · refine .inl ⟨_, ?_, stop (.inr (.inr ⟨h1, by omega⟩))⟩; simp only [cz, eJ, az Sk, aq, cond_true, cond_false, aC, zq, Option.bind_some, ai h5, ah h6]
     refine .inr ⟨_, ?_, rfl, by omega⟩; have hlen := og a6 bC bO aG k; simp only [cz, eJ, az Sk, aq, cond_true, cond_false, aC, zq, Option.bind_some, ai h5, ai h6, e1, hlen, aH (show (k + 1) * 40 ≤ lim by unfold lim; omega), aJ (show k < 4611686018427387904 by omega)]; rw [B5]; unfold uM; rw [hgt]
     by_cases h7 : k < bO.length
     · have hgl : bO.getD k ((0 : Int), ()) = bO[k] := by rw [List.getD_eq_getElem?_getD, List.getElem?_eq_getElem h7, Option.getD_some]
       rw [az h7, ah h7, hgl]; simp only [cond_true, List.getElem?_eq_getElem h7, Option.bind_some, Bool.true_and]
       cases decide (bO[k].1 = 2) <;> rfl
     · rw [ai (show ¬ ((k : Nat) : Int) < ((List.length bO : Nat) : Int) by omega), ai h7]; rfl
 rw [g1]; subst g2; simp only [ir]
 by_cases w1 : bS = a6
 · rw [ah w1]
   by_cases w2 : bW = 0
   · rw [ah w2]; exact ⟨m, _, rfl, g3, g4, g5, .inr rfl, g6, by rw [if_pos ⟨w1, w2⟩]⟩
   · rw [ai w2]; exact ⟨m, _, rfl, g3, g4, g5, .inl rfl, g6, by rw [if_neg (fun h => w2 h.2)]⟩
 · rw [ai w1]; exact ⟨m, _, rfl, g3, g4, g5, .inl rfl, g6, by rw [if_neg (fun h => w1 h.1)]⟩
def zj (c2 c3 c4 d a : Int) : Int := if a < c3 then a else if c4 = d then (if c2 < a then c2 else a) else c3
def zk (c2 c3 c4 d a : Int) : Int := if a < c3 then d else if c4 = d then (if c2 ≤ a then 0 else c4) else c4
theorem MQ (c0 c1 c2 c3 c4 : Int) (xs : List (Int × Unit)) (d a : Int) (h : xs.length ≤ 1048576) {b : Bool} (hb : cf c0 c1 c2 c3 c4 xs = some (b, ())) :
   ∃ t3 t4, qT c0 c1 c2 c3 c4 xs d a = some (c0, c1, c2, t3, t4, xs, ()) ∧ qX c0 c1 c2 c3 c4 xs d a = some (c0, c1, c2, t3, t4, xs, ()) ∧
     (b = false ∨ d < 1 ∨ 5 < d ∨ a < 0 → t3 = c3 ∧ t4 = c4) ∧ (b = true → 1 ≤ d → d ≤ 5 → 0 ≤ a → 0 ≤ c3 → c3 ≤ c2 → 0 ≤ t3 ∧ t3 ≤ c2 ∧ t3 ≤ a ∧ (t3 ≤ c3 ∨ c4 = d) ∧ (t4 = c4 ∨ t4 = d ∨ (t4 = 0 ∧ c4 = d))) ∧ (b = true → 1 ≤ d → d ≤ 5 → 0 ≤ a → t3 = zj c2 c3 c4 d a ∧ t4 = zk c2 c3 c4 d a) := by
 obtain ⟨b', h1, h2, _⟩ := sC c0 c1 c2 c3 c4 xs h; rw [hb] at h1; obtain rfl : b = b' := by injection h1 with h1; injection h1
 obtain ⟨h3, h4⟩ := ig c0 c1 c2 c3 c4 xs h; unfold qT qX; simp only [Option.bind_some, hb, h2, h3, h4, mO, oE]
 cases b
 · have : ∀ t3 t4 : Int, t3 = c3 → t4 = c4 → (false = false ∨ d < 1 ∨ 5 < d ∨ a < 0 → t3 = c3 ∧ t4 = c4) ∧ (false = true → 1 ≤ d → d ≤ 5 → 0 ≤ a → 0 ≤ c3 → c3 ≤ c2 → 0 ≤ t3 ∧ t3 ≤ c2 ∧ t3 ≤ a ∧ (t3 ≤ c3 ∨ c4 = d) ∧ (t4 = c4 ∨ t4 = d ∨ (t4 = 0 ∧ c4 = d))) ∧ (false = true → 1 ≤ d → d ≤ 5 → 0 ≤ a → t3 = zj c2 c3 c4 d a ∧ t4 = zk c2 c3 c4 d a) :=
     fun t3 t4 e1 e2 => ⟨fun _ => ⟨e1, e2⟩, (fun h => by cases h), (fun h => by cases h)⟩
   cases (decide (1 ≤ d) && decide (d ≤ 5))
   · exact ⟨_, _, rfl, rfl, this _ _ rfl rfl⟩
   cases decide (a < 0)
   · exact ⟨_, _, rfl, rfl, this _ _ rfl rfl⟩
   · exact ⟨_, _, rfl, rfl, this _ _ rfl rfl⟩
 by_cases hd : 1 ≤ d ∧ d ≤ 5
 · rw [ah hd.1, ah hd.2]
   by_cases ha : a < 0
   · rw [ah ha]; exact ⟨_, _, rfl, rfl, (fun _ => ⟨rfl, rfl⟩), (fun _ _ _ h => by omega), (fun _ _ _ h => by omega)⟩
   rw [ai ha]; have no : ∀ {A : Prop}, (true = false ∨ d < 1 ∨ 5 < d ∨ a < 0) → A := by
     rintro A (h | h | h | h)
     · cases h
     · omega
     · omega
     · omega
   by_cases h5 : a < c3
   · rw [ah h5]; exact ⟨_, _, rfl, rfl, no, (fun _ _ _ _ _ _ => ⟨by omega, by omega, by omega, .inl (by omega), .inr (.inl rfl)⟩), fun _ _ _ _ => by unfold zj zk; rw [if_pos h5, if_pos h5]; exact ⟨rfl, rfl⟩⟩
   rw [ai h5]
   by_cases h6 : c4 = d
   · rw [ah h6]
     by_cases h7 : c2 < a
     · rw [ah h7, if_pos h7, ah (show c2 = c2 from rfl)]; exact ⟨_, _, rfl, rfl, no, (fun _ _ _ _ _ _ => ⟨by omega, by omega, by omega, .inr h6, .inr (.inr ⟨rfl, h6⟩)⟩), fun _ _ _ _ => by unfold zj zk; rw [if_neg h5, if_neg h5, if_pos h6, if_pos h6, if_pos h7, if_pos (by omega)]; exact ⟨rfl, rfl⟩⟩
     · rw [ai h7, if_neg h7]
       by_cases h8 : a = c2
       · rw [ah h8]; exact ⟨_, _, rfl, rfl, no, (fun _ _ _ _ _ _ => ⟨by omega, by omega, by omega, .inr h6, .inr (.inr ⟨rfl, h6⟩)⟩), fun _ _ _ _ => by unfold zj zk; rw [if_neg h5, if_neg h5, if_pos h6, if_pos h6, if_neg h7, if_pos (by omega)]; exact ⟨rfl, rfl⟩⟩
       · rw [ai h8]; exact ⟨_, _, rfl, rfl, no, (fun _ _ _ _ _ _ => ⟨by omega, by omega, by omega, .inr h6, .inl rfl⟩), fun _ _ _ _ => by unfold zj zk; rw [if_neg h5, if_neg h5, if_pos h6, if_pos h6, if_neg h7, if_neg (by omega)]; exact ⟨rfl, rfl⟩⟩
   · rw [ai h6]; exact ⟨_, _, rfl, rfl, no, (fun _ _ _ _ _ _ => ⟨by omega, by omega, by omega, .inl (by omega), .inl rfl⟩), fun _ _ _ _ => by unfold zj zk; rw [if_neg h5, if_neg h5, if_neg h6, if_neg h6]; exact ⟨rfl, rfl⟩⟩
 · have e : (decide (1 ≤ d) && decide (d ≤ 5)) = false := by
     cases hq : (decide (1 ≤ d) && decide (d ≤ 5))
     · rfl
     · rw [Bool.and_eq_true, decide_eq_true_eq, decide_eq_true_eq] at hq; exact absurd hq hd
   rw [e]; exact ⟨_, _, rfl, rfl, (fun _ => ⟨rfl, rfl⟩), (fun _ h1 h2 => absurd ⟨h1, h2⟩ hd), (fun _ h1 h2 => absurd ⟨h1, h2⟩ hd)⟩
theorem DM (d : Int) (xs : List (Int × Unit)) (h : xs.length ≤ 1048576) : dh xs d = some (decide (d ∈ aZ xs), ()) := by
 obtain ⟨e, he, hq⟩ := ef (round := bY) (x := (xs, d, ((0 : Nat) : Int), ())) xs.length (fun k x => x = (xs, d, ((k : Nat) : Int), ()) ∧ d ∉ aZ (xs.take k)) (fun e => (e = .inl () ∧ d ∉ aZ xs) ∨ (e = .inr (true, ()) ∧ d ∈ aZ xs)) (by
     rintro x ⟨rfl, g⟩
     rw [List.take_length] at g; exact ⟨.inl (), by simp only [bY, gw, aF, cond_false], .inl ⟨rfl, g⟩⟩) (by
     rintro k x hk ⟨rfl, g⟩
     simp only [bY, gw, az hk, aq, cond_true, aC, List.getElem?_eq_getElem hk, Option.bind_some, aJ (show k < 4611686018427387904 by omega)]
     by_cases e : xs[k].1 = d
     · rw [ah e]; exact .inl ⟨_, rfl, .inr ⟨rfl, by rw [← e]; exact List.mem_map_of_mem (List.getElem_mem hk)⟩⟩
     · rw [ai e]; refine .inr ⟨_, rfl, rfl, ?_⟩; rw [List.take_succ_eq_append_getElem hk]; unfold aZ at g ⊢; rw [List.map_append, List.mem_append]
       rintro (h1 | h1)
       · exact g h1
       · simp only [List.map_cons, List.map_nil, List.mem_singleton] at h1; exact e h1.symm) ⟨rfl, by simp [aZ]⟩
 have he : aE bY (xs, d, (0 : Int), ()) = some e := he; unfold dh; rw [he]; rcases hq with ⟨rfl, g⟩ | ⟨rfl, g⟩
 · rw [ai g]; rfl
 · rw [ah g]; rfl
theorem DN (d : Int) (xs : List (Int × Unit)) (h : xs.length ≤ 1048576) : dR xs d = some (decide (d ∈ aZ xs), ()) := by
 obtain ⟨b, h1, h2⟩ := vo d xs h; rw [DM d xs h] at h1; injection h1 with h1; injection h1 with h1 _; rw [h2, h1]
def hasB (list : aM) (s : Int) : Bool := (cT list s).isSome
theorem um (o : Option dx) : (mi o).2.2.2.2.1 = o.isSome := by cases o <;> rfl
def DO {B C : Type} (list : aM) (u : Int) : Sum ((List (Int × Unit)) × Unit) B → Sum ((List (Int × Unit)) × Unit) C → Prop
 | .inl a, .inl b => a = b ∧ ∃ ms : List Int, a.1 = aN ms ∧ ms.length ≤ 20 ∧ ∀ s ∈ ms, 1 ≤ s ∧ s ≤ u ∧ hasB list s = false
 | _, _ => False
theorem xN (list : aM) (upto u : Int) (n : Nat) (h : list.length ≤ 1048576) (hn : n ≤ 1048576) (hu : (if (60 : Int) < upto then (60 : Int) else upto) = u) (agh : u ≤ 60) :
   ∃ e f, aE eZ (list, u, [], ((n + 1 : Nat) : Int), ()) = some e ∧ aE fS (list, upto, [], ((n + 1 : Nat) : Int), ()) = some f ∧ DO list u e f := by
 refine mz 61 (fun k x y => ∃ ms : List Int, x = (list, u, aN ms, ((n + 1 + k : Nat) : Int), ()) ∧ y = (list, upto, aN ms, ((n + 1 + k : Nat) : Int), ()) ∧ ms.length ≤ 20 ∧ ∀ s ∈ ms, 1 ≤ s ∧ s ≤ u ∧ hasB list s = false) (DO list u) ?_ ⟨[], rfl, rfl, by simp, fun s hs => by cases hs⟩
 rintro k x y hk ⟨ms, rfl, rfl, q1, q2⟩
 have stop : DO (B := Unit) (C := Unit) list u (.inl (aN ms, ())) (.inl (aN ms, ())) := ⟨rfl, ms, rfl, q1, q2⟩
 by_cases bP : ((n + 1 + k : Nat) : Int) ≤ u
 case neg =>
   refine .inl ⟨.inl (aN ms, ()), .inl (aN ms, ()), ?_, ?_, ⟨rfl, ms, rfl, q1, q2⟩⟩
   · simp only [eZ, j7, ai bP, cond_false]
   · simp only [fS, j8, hu, ai bP, cond_false]
 by_cases PN : ((List.length (aN ms) : Nat) : Int) < 20
 case neg =>
   refine .inl ⟨.inl (aN ms, ()), .inl (aN ms, ()), ?_, ?_, ⟨rfl, ms, rfl, q1, q2⟩⟩
   · simp only [eZ, j7, ah bP, ai PN, cond_true, cond_false]
   · simp only [fS, j8, hu, ah bP, ai PN, cond_true, cond_false]
 have hl : (aN ms).length = ms.length := bJ ms; simp only [eZ, j7, fS, j8, hu, ah bP, ah PN, cond_true, qe list _ h, qf list _ h, Option.bind_some, um, aH (show ((aN ms).length + 1) * 8 ≤ lim by unfold lim; omega), aJ (show n + 1 + k < 4611686018427387904 by omega)]
 cases hh : (cT list ((n + 1 + k : Nat) : Int)).isSome
 · refine .inr ⟨by omega, _, _, rfl, rfl, ms ++ [((n + 1 + k : Nat) : Int)], by simp [aN]; omega, by simp [aN]; omega, by simp; omega, fun s hs => ?_⟩; rcases List.mem_append.1 hs with hs | hs
   · exact q2 s hs
   · rw [List.mem_singleton] at hs; subst hs; exact ⟨by omega, by omega, hh⟩
 · exact .inr ⟨by omega, _, _, rfl, rfl, ms, by rw [show n + 1 + k + 1 = n + 1 + (k + 1) by omega], by rw [show n + 1 + k + 1 = n + 1 + (k + 1) by omega], q1, q2⟩
theorem Fx (list : aM) (upto : Int) (h : list.length ≤ 1048576) : ∃ ms : List Int, ll list upto = some (aN ms, ()) ∧ ly list upto = some (aN ms, ()) ∧ ms.length ≤ 20 ∧ ∀ s ∈ ms, 1 ≤ s ∧ (s ≤ 60 ∧ s ≤ upto) ∧ hasB list s = false := by
 obtain ⟨n, a1, a2, a3, _⟩ := Bl list h; have hw : IntKind.i64.wrap (((n : Nat) : Int) + (1 : Int)) = ((n + 1 : Nat) : Int) := aJ (by omega); unfold ll ly; simp only [a1, a2, Option.bind_some, hw]
 by_cases hu : (60 : Int) < upto
 · obtain ⟨e, f, g1, g2, g3⟩ := xN list upto 60 n h (by omega) (if_pos hu) (by omega); rw [ah hu]; simp only [cond_true, g1, g2]
   cases e with
   | inr e => exact g3.elim
   | inl e => cases f with
     | inr f => exact g3.elim
     | inl f =>
       obtain ⟨rfl, ms, k1, k2, k3⟩ := g3; simp only [ir]; exact ⟨ms, by rw [k1], by rw [k1], k2, fun s hs => ⟨(k3 s hs).1, ⟨(k3 s hs).2.1, by have := (k3 s hs).2.1; omega⟩, (k3 s hs).2.2⟩⟩
 · obtain ⟨e, f, g1, g2, g3⟩ := xN list upto upto n h (by omega) (if_neg hu) (by omega); rw [ai hu]; simp only [cond_false, g1, g2]
   cases e with
   | inr e => exact g3.elim
   | inl e => cases f with
     | inr f => exact g3.elim
     | inl f =>
       obtain ⟨rfl, ms, k1, k2, k3⟩ := g3; simp only [ir]; exact ⟨ms, by rw [k1], by rw [k1], k2, fun s hs => ⟨(k3 s hs).1, ⟨by have := (k3 s hs).2.1; omega, (k3 s hs).2.1⟩, (k3 s hs).2.2⟩⟩
theorem Bt : ∀ (a b : List Int), a.Pairwise (· < ·) → b.Pairwise (· < ·) → (∀ x, x ∈ a ↔ x ∈ b) → a = b
 | [], [], _, _, _ => rfl
 | [], y :: b, _, _, h => absurd ((h y).2 List.mem_cons_self) (by simp)
 | x :: a, [], _, _, h => absurd ((h x).1 List.mem_cons_self) (by simp)
 | x :: a, y :: b, ha, hb, h => by
   rw [List.pairwise_cons] at ha hb; have hxy : x = y := by
     rcases List.mem_cons.1 ((h x).1 List.mem_cons_self) with e | e
     · exact e
     · have h1 := hb.1 x e; rcases List.mem_cons.1 ((h y).2 List.mem_cons_self) with e2 | e2
       · exact e2.symm
       · have h2 := ha.1 y e2; omega
   subst hxy
   congr 1
   refine Bt a b ha.2 hb.2 fun z => ⟨fun hz => ?_, fun hz => ?_⟩
   · rcases List.mem_cons.1 ((h z).1 (List.mem_cons_of_mem _ hz)) with e | e
     · have := ha.1 z hz; omega
     · exact e
   · rcases List.mem_cons.1 ((h z).2 (List.mem_cons_of_mem _ hz)) with e | e
     · have := hb.1 z hz; omega
     · exact e
theorem Om (l : List Int) : (l.mergeSort fun x y => decide (x ≤ y)).Pairwise (· ≤ ·) := by
 have := List.pairwise_mergeSort (le := fun x y : Int => decide (x ≤ y)) (fun a b c h1 h2 => by simp only [decide_eq_true_eq] at *; omega) (fun a b => by simp only [Bool.or_eq_true, decide_eq_true_eq]; omega) l; exact this.imp fun h => by simpa using h
theorem MR (l : List Int) (x : Int) : x ∈ (l.mergeSort fun x y => decide (x ≤ y)) ↔ x ∈ l := (List.mergeSort_perm l _).mem_iff
theorem qZ (l : List Int) (j : Nat) (h : j < l.length) : l.toArray[j]! = l[j] := by
 rw [getElem!_pos l.toArray j (by simpa using h)]; simp
theorem Bu (l : List Int) (h : l.Pairwise (· ≤ ·)) : (Lib.compact l).Pairwise (· < ·) := by
 unfold Lib.compact Lib.compactUpTo; rw [List.pairwise_map]; have hr : ((List.range l.length).filter (Lib.keeps l.toArray)).Pairwise (· < ·) := List.Pairwise.filter _ List.pairwise_lt_range; refine hr.imp_of_mem fun {i j} hi hj NM => ?_
 obtain ⟨XO, _⟩ := List.mem_filter.1 hi; obtain ⟨Nj, Lg⟩ := List.mem_filter.1 hj; have XO := List.mem_range.1 XO; have Nj := List.mem_range.1 Nj; have hk : l.toArray[j]! ≠ l.toArray[j - 1]! := by
   unfold Lib.keeps at Lg; rw [decide_eq_true_eq] at Lg; exact Lg.resolve_left (by omega)
 have hp := List.pairwise_iff_getElem.1 h; have h1 := hp (j - 1) j (by omega) Nj (by omega); rw [qZ l j Nj, qZ l (j - 1) (by omega)] at hk; rw [qZ l i XO, qZ l j Nj]
 by_cases e : i = j - 1
 · subst e; omega
 · have h2 := hp i (j - 1) XO (by omega) (by omega); omega
theorem Fy (l : List Int) (x : Int) : x ∈ Lib.compact l ↔ x ∈ l := by
 unfold Lib.compact Lib.compactUpTo; rw [List.mem_map]
 constructor
 · rintro ⟨j, hj, rfl⟩
   have Nj := List.mem_range.1 (List.mem_filter.1 hj).1; rw [qZ l j Nj]; exact List.getElem_mem Nj
 · intro hx; have key : ∀ j, j < l.length → ∃ i, i ∈ (List.range l.length).filter (Lib.keeps l.toArray) ∧ l.toArray[i]! = l.toArray[j]! := by
     intro j
     induction j with
     | zero => intro h0; exact ⟨0, List.mem_filter.2 ⟨List.mem_range.2 h0, by simp [Lib.keeps]⟩, rfl⟩
     | succ j ih =>
       intro hj
       by_cases e : l.toArray[j + 1]! = l.toArray[j]!
       · obtain ⟨i, h1, h2⟩ := ih (by omega); exact ⟨i, h1, by rw [h2, e]⟩
       · exact ⟨j + 1, List.mem_filter.2 ⟨List.mem_range.2 hj, by unfold Lib.keeps; rw [decide_eq_true_eq, Nat.add_sub_cancel]; exact .inr e⟩, rfl⟩
   obtain ⟨j, hj, rfl⟩ := List.mem_iff_getElem.1 hx; obtain ⟨i, h1, h2⟩ := key j hj; exact ⟨i, h1, by rw [h2, qZ l j hj]⟩
def ints (n : Nat) : List Int := (List.range n).map fun i => ((i + 1 : Nat) : Int)
theorem CR (n : Nat) : ints (n + 1) = ints n ++ [((n + 1 : Nat) : Int)] := by
 unfold ints; rw [List.range_succ, List.map_append]; rfl
theorem MS (n : Nat) (x : Int) : x ∈ ints n ↔ 1 ≤ x ∧ x ≤ ((n : Nat) : Int) := by
 unfold ints; rw [List.mem_map]
 constructor
 · rintro ⟨i, hi, rfl⟩
   have := List.mem_range.1 hi; omega
 · rintro ⟨h1, h2⟩
   exact ⟨(x - 1).toNat, List.mem_range.2 (by omega), by omega⟩
theorem zl (n : Nat) : (ints n).Pairwise (· < ·) := by
 unfold ints; rw [List.pairwise_map]; exact List.pairwise_lt_range.imp fun h => by omega
theorem Bv : ∀ (k d : Nat), ∃ r, ints (k + d) = ints k ++ r
 | k, 0 => ⟨[], by simp⟩
 | k, d + 1 => by
   obtain ⟨r, h⟩ := Bv k d; exact ⟨r ++ [((k + d + 1 : Nat) : Int)], by rw [show k + (d + 1) = (k + d) + 1 by omega, CR, h, List.append_assoc]⟩
theorem Hz (a b : List Int) : aN (a ++ b) = aN a ++ aN b := by simp [aN]
theorem Fz (a : List Int) (n : Nat) : aN (a.take n) = (aN a).take n := by simp [aN, List.map_take]
theorem mj (a : List Int) : aZ (aN a) = a := by simp [aZ, aN, Function.comp_def]
def fv (list : aM) (xs : List (Int × Unit)) (ms : List Int) (s : Int) : Bool := (!hasB list s && decide (s ∈ aZ xs)) || decide (s ∈ ms)
def iE (list : aM) (xs : List (Int × Unit)) (ms : List Int) : List Int := ((ints 60).filter (fv list xs ms)).take 20
abbrev PO : Type := aM × Int × Int × Int × Int × Int × (List (Int × Unit)) × Int × Int × Int × Int × Int × (List (Int × Unit)) × Int × Int × Int × Int × Int × (List (Int × Unit)) × (List (Int × Unit)) × Int × Unit
theorem HA (t0 t1 t2 t3 t4 : Int) (xs : List (Int × Unit)) (list : aM) (ms : List Int) (h : list.length ≤ 1048576) (hx : xs.length ≤ 1048576) (hm : ll list t2 = some (aN ms, ())) (XP : ms.length ≤ 20) :
   bT t0 t1 t2 t3 t4 xs list = some (t0, t1, t2, t3, t4, aN (iE list xs ms), ()) := by
 have OH : (aN ms).length ≤ 1048576 := by rw [bJ]; omega
 obtain ⟨e, he, rfl⟩ := ef (round := iJ) (x := (list, t0, t1, t2, t3, t4, xs, (0 : Int), (0 : Int), (0 : Int), (0 : Int), (0 : Int), [], t0, t1, t2, t3, t4, [], aN ms, ((0 + 1 : Nat) : Int), ())) 60
   (fun k x => x = (list, t0, t1, t2, t3, t4, xs, (0 : Int), (0 : Int), (0 : Int), (0 : Int), (0 : Int), [], t0, t1, t2, t3, t4, aN ((ints k).filter (fv list xs ms)), aN ms, ((k + 1 : Nat) : Int), ()) ∧ ((ints k).filter (fv list xs ms)).length ≤ 20)
   (fun e => e = .inl ((0 : Int), (0 : Int), (0 : Int), (0 : Int), (0 : Int), [], t0, t1, t2, t3, t4, aN (iE list xs ms), ())) (by
     rintro x ⟨rfl, g⟩
     refine ⟨_, ?_, rfl⟩; simp only [iJ, mf, ai (show ¬ ((60 + 1 : Nat) : Int) ≤ (60 : Int) by omega), cond_false]; unfold iE; rw [List.take_of_length_le g]) (by
     rintro k x hk ⟨rfl, g⟩
     have hle : ((k + 1 : Nat) : Int) ≤ (60 : Int) := by omega
     have hl := bJ ((ints k).filter (fv list xs ms))
     by_cases PN : ((List.length (aN ((ints k).filter (fv list xs ms))) : Nat) : Int) < 20
     case neg =>
       refine .inl ⟨_, ?_, rfl⟩; simp only [iJ, mf, ah hle, ai PN, cond_true, cond_false]; have : iE list xs ms = (ints k).filter (fv list xs ms) := by
         unfold iE; obtain ⟨r, hr⟩ := Bv k (60 - k); rw [show k + (60 - k) = 60 by omega] at hr; rw [hr, List.filter_append]; exact List.take_left' (by omega)
       rw [this]
     have CS : (ints (k + 1)).filter (fv list xs ms) = (ints k).filter (fv list xs ms) ++ (if fv list xs ms ((k + 1 : Nat) : Int) then [((k + 1 : Nat) : Int)] else []) := by
       rw [CR, List.filter_append]; rw [List.filter_cons, List.filter_nil]
     have aa7 := DM ((k + 1 : Nat) : Int) xs hx; have WY := DM ((k + 1 : Nat) : Int) (aN ms) OH; rw [mj] at WY; have hb : Nat.ble (((aN ((ints k).filter (fv list xs ms))).length + 1) * 8) lim = true := aH (by unfold lim; omega); have hsw := aJ (show k + 1 < 4611686018427387904 by omega); simp only [iJ, mf, ah hle, ah PN, cond_true, qe list _ h, Option.bind_some, um, aa7, WY, hb, hsw]; have yes : fv list xs ms ((k + 1 : Nat) : Int) = true → ∃ x' : PO, x' = (list, t0, t1, t2, t3, t4, xs, (0 : Int), (0 : Int), (0 : Int), (0 : Int), (0 : Int), [], t0, t1, t2, t3, t4, aN ((ints k).filter (fv list xs ms)) ++ [(((k + 1 : Nat) : Int), ())], aN ms, ((k + 1 + 1 : Nat) : Int), ()) ∧
         (x' = (list, t0, t1, t2, t3, t4, xs, (0 : Int), (0 : Int), (0 : Int), (0 : Int), (0 : Int), [], t0, t1, t2, t3, t4, aN ((ints (k + 1)).filter (fv list xs ms)), aN ms, ((k + 1 + 1 : Nat) : Int), ()) ∧ ((ints (k + 1)).filter (fv list xs ms)).length ≤ 20) := by
       intro hp; refine ⟨_, rfl, ?_, ?_⟩
       · rw [CS, hp, if_pos rfl, Hz]; rfl
       · rw [CS, hp, if_pos rfl, List.length_append]; simp; omega
     have no : fv list xs ms ((k + 1 : Nat) : Int) = false → ∃ x' : PO, x' = (list, t0, t1, t2, t3, t4, xs, (0 : Int), (0 : Int), (0 : Int), (0 : Int), (0 : Int), [], t0, t1, t2, t3, t4, aN ((ints k).filter (fv list xs ms)), aN ms, ((k + 1 + 1 : Nat) : Int), ()) ∧
         (x' = (list, t0, t1, t2, t3, t4, xs, (0 : Int), (0 : Int), (0 : Int), (0 : Int), (0 : Int), [], t0, t1, t2, t3, t4, aN ((ints (k + 1)).filter (fv list xs ms)), aN ms, ((k + 1 + 1 : Nat) : Int), ()) ∧ ((ints (k + 1)).filter (fv list xs ms)).length ≤ 20) := by
       intro hp; refine ⟨_, rfl, ?_, ?_⟩
       · rw [CS, hp]; simp
       · rw [CS, hp]; simp; omega
     have DP : fv list xs ms ((k + 1 : Nat) : Int) = ((!(cT list ((k + 1 : Nat) : Int)).isSome && decide (((k + 1 : Nat) : Int) ∈ aZ xs)) || decide (((k + 1 : Nat) : Int) ∈ ms)) := rfl
     cases c1 : (cT list ((k + 1 : Nat) : Int)).isSome
     · cases c2 : decide (((k + 1 : Nat) : Int) ∈ aZ xs)
       · cases c3 : decide (((k + 1 : Nat) : Int) ∈ ms)
         · obtain ⟨x', g1, g2⟩ := no (by rw [DP, c1, c2, c3]; rfl); exact .inr ⟨x', by rw [g1]; rfl, g2⟩
         · obtain ⟨x', g1, g2⟩ := yes (by rw [DP, c1, c2, c3]; rfl); exact .inr ⟨x', by rw [g1]; rfl, g2⟩
       · obtain ⟨x', g1, g2⟩ := yes (by rw [DP, c1, c2]; rfl); exact .inr ⟨x', by rw [g1]; rfl, g2⟩
     · cases c3 : decide (((k + 1 : Nat) : Int) ∈ ms)
       · obtain ⟨x', g1, g2⟩ := no (by rw [DP, c1, c3]; rfl); exact .inr ⟨x', by rw [g1]; rfl, g2⟩
       · obtain ⟨x', g1, g2⟩ := yes (by rw [DP, c1, c3]; rfl); exact .inr ⟨x', by rw [g1]; rfl, g2⟩) ⟨rfl, by simp [ints]⟩
 unfold bT; rw [hm]; simp only [Option.bind_some]; rw [show (1 : Int) = ((0 + 1 : Nat) : Int) from rfl, he]; rfl
def nP (list : aM) (s : Int) : Bool := !hasB list s && (decide (1 ≤ s) && decide (s ≤ 60))
theorem HB (t0 t1 t2 t3 t4 : Int) (xs : List (Int × Unit)) (list : aM) (ms : List Int) (h : list.length ≤ 1048576) (hx : xs.length ≤ 1048576) (hm : ly list t2 = some (aN ms, ())) (XP : ms.length ≤ 20) (hmp : ∀ s ∈ ms, 1 ≤ s ∧ s ≤ 60 ∧ hasB list s = false) :
   py t0 t1 t2 t3 t4 xs list = some (t0, t1, t2, t3, t4, aN (iE list xs ms), ()) := by
 have Iu := ee (round := iL) (e := .inl ((0 : Int), (0 : Int), (0 : Int), (0 : Int), (0 : Int), [], t0, t1, t2, t3, t4, xs, aN (ms ++ (aZ xs).filter (nP list)), ())) xs.length
   (fun k => (list, (0 : Int), (0 : Int), (0 : Int), (0 : Int), (0 : Int), [], t0, t1, t2, t3, t4, xs, aN (ms ++ (aZ (xs.take k)).filter (nP list)), xs, ((List.length xs : Nat) : Int), ((k : Nat) : Int), ())) (by
     simp only [iL, qz, aF, cond_false, List.take_length]) (fun k hk => by
     have hfl : ((aZ (xs.take k)).filter (nP list)).length ≤ 1048576 := by
       have h1 := List.length_filter_le (nP list) (aZ (xs.take k)); have h2 := gu (xs.take k); rw [List.length_take] at h2; omega
     have hl := bJ (ms ++ (aZ (xs.take k)).filter (nP list)); rw [List.length_append] at hl; have CS : (aZ (xs.take (k + 1))).filter (nP list) = (aZ (xs.take k)).filter (nP list) ++ (if nP list xs[k].1 then [xs[k].1] else []) := by
       rw [List.take_succ_eq_append_getElem hk]; unfold aZ; rw [List.map_append, List.filter_append, List.map_cons, List.map_nil, List.filter_cons, List.filter_nil]
     have DP : nP list xs[k].1 = (!(cT list xs[k].1).isSome && (decide (1 ≤ xs[k].1) && decide (xs[k].1 ≤ 60))) := rfl; simp only [iL, qz, az hk, aq, cond_true, aC, List.getElem?_eq_getElem hk, Option.bind_some, qf list _ h, um, sB, aH (show ((aN (ms ++ (aZ (xs.take k)).filter (nP list))).length + 1) * 8 ≤ lim by unfold lim; omega), aJ (show k < 4611686018427387904 by omega), CS]
     cases c1 : (cT list xs[k].1).isSome
     · cases c2 : (decide (1 ≤ xs[k].1) && decide (xs[k].1 ≤ 60))
       · rw [DP, c1, c2]; simp
       · rw [DP, c1, c2]; simp [aN]
     · rw [DP, c1]; simp)
 have Iu : aE iL (list, (0 : Int), (0 : Int), (0 : Int), (0 : Int), (0 : Int), [], t0, t1, t2, t3, t4, xs, aN (ms ++ (aZ (xs.take 0)).filter (nP list)), xs, ((List.length xs : Nat) : Int), (0 : Int), ()) = _ := Iu; rw [show ms ++ (aZ (xs.take 0)).filter (nP list) = ms by simp [aZ]] at Iu; have c2 : cw t0 t1 t2 t3 t4 xs = some (t0, t1, t2, t3, t4, xs, ()) := by
   unfold cw; rw [qY xs hx]; rfl
 have hwl : (ms ++ (aZ xs).filter (nP list)).length ≤ 1048576 + 20 := by
   rw [List.length_append]; have h1 := List.length_filter_le (nP list) (aZ xs); have h2 := gu xs; omega
 generalize hW : ms ++ (aZ xs).filter (nP list) = W at *; have WZ : AY (aN W) = some (aN (W.mergeSort fun x y => decide (x ≤ y)), ()) := by
   unfold AY; rw [aH (show (aN W).length ≤ lim by rw [bJ]; unfold lim; omega), mj]; rfl
 have PQ : la (aN (W.mergeSort fun x y => decide (x ≤ y))) = some (aN (Lib.compact (W.mergeSort fun x y => decide (x ≤ y))), ()) := by
   unfold la; rw [aH (show (aN (W.mergeSort fun x y => decide (x ≤ y))).length ≤ lim by rw [bJ, List.length_mergeSort]; unfold lim; omega), mj]; rfl
 have hC : Lib.compact (W.mergeSort fun x y => decide (x ≤ y)) = (ints 60).filter (fv list xs ms) := by
   refine Bt _ _ (Bu _ (Om W)) ((zl 60).filter _) fun z => ?_
   rw [Fy, MR, ← hW, List.mem_append, List.mem_filter, List.mem_filter, MS]; unfold nP fv; simp only [Bool.and_eq_true, Bool.or_eq_true, decide_eq_true_eq, Bool.not_eq_true']
   constructor
   · rintro (h1 | ⟨h1, h2, h3, h4⟩)
     · exact ⟨⟨(hmp z h1).1, (hmp z h1).2.1⟩, .inr h1⟩
     · exact ⟨⟨h3, h4⟩, .inl ⟨h2, h1⟩⟩
   · rintro ⟨⟨h3, h4⟩, ⟨h2, h1⟩ | h1⟩
     · exact .inr ⟨h1, h2, h3, h4⟩
     · exact .inl h1
 rw [hC] at PQ; have hCl : ((ints 60).filter (fv list xs ms)).length ≤ 60 := Nat.le_trans (List.length_filter_le _ _) (by simp [ints]); have aa8 : (if (20 : Int) < ((List.length (aN ((ints 60).filter (fv list xs ms))) : Nat) : Int) then (20 : Int) else ((List.length (aN ((ints 60).filter (fv list xs ms))) : Nat) : Int)) = ((min 20 ((ints 60).filter (fv list xs ms)).length : Nat) : Int) := by
   rw [bJ]
   split <;> omega
 have W0 : List.take (min 20 ((ints 60).filter (fv list xs ms)).length) (aN ((ints 60).filter (fv list xs ms))) = aN (iE list xs ms) := by
   unfold iE; rw [Fz]
   by_cases PN : 20 ≤ ((ints 60).filter (fv list xs ms)).length
   · rw [Nat.min_eq_left PN]
   · rw [Nat.min_eq_right (by omega), List.take_of_length_le (by rw [bJ]; omega), List.take_of_length_le (by rw [bJ]; omega)]
 have pI := qY (aN (iE list xs ms)) (by rw [bJ]; unfold iE; rw [List.length_take]; omega); unfold py; rw [c2, hm]; simp only [Option.bind_some]; rw [Iu]; simp only [ir, WZ, PQ, Option.bind_some, aa8, aq, cond_true, aC, List.drop_zero, W0, pI, ah (show ((min 20 ((ints 60).filter (fv list xs ms)).length : Nat) : Int) ≤ ((List.length (aN ((ints 60).filter (fv list xs ms))) : Nat) : Int) by rw [bJ]; omega)]
theorem Iv {xs : aM} {s : Int} : hasB xs s = true ↔ ∃ r ∈ xs, r.1 = s := by
 unfold hasB cT; rw [List.find?_isSome]; simp only [decide_eq_true_eq]
theorem yt {r m : dx} : {xs : aM} → r ∈ xs → r ∈ kP xs m
 | [], h => by cases h
 | x :: xs, h => by
   unfold kP
   split
   · rcases List.mem_cons.1 h with rfl | h
     · exact List.mem_cons_self
     · exact List.mem_cons_of_mem _ (yt h)
   · split
     · exact h
     · exact List.mem_cons_of_mem _ h
theorem FA {xs ys : aM} (hx : xs.length ≤ 1048576) (hy : ys.length ≤ 1048576) (h : ∀ r ∈ xs, ∃ q ∈ ys, q.1 = r.1) : cF xs ≤ cF ys := by
 obtain ⟨_, a1, _⟩ := (uj xs hx).2.2; obtain ⟨_, _, b2⟩ := (uj ys hy).2.2
 by_cases bP : cF ys < cF xs
 · have h1 := a1 _ bP; obtain ⟨r, hr, e⟩ := Iv.1 h1; obtain ⟨q, hq, e2⟩ := h r hr; have : hasB ys ((cF ys + 1 : Nat) : Int) = true := Iv.2 ⟨q, hq, e2.trans e⟩; unfold hasB at this; rw [b2] at this
   cases this
 · omega
def bf (xs : aM) (fs : aM) : aM := fs.foldl kP xs
theorem oh : (fs : aM) → {xs : aM} → gF xs xs.length → (∀ f ∈ fs, jX f) → gF (bf xs fs) (bf xs fs).length
 | [], _, h, _ => h
 | f :: fs, _, h, hf => oh fs (Br h (hf f List.mem_cons_self)) fun g hg => hf g (List.mem_cons_of_mem _ hg)
theorem zm {r : dx} : (fs : aM) → {xs : aM} → r ∈ xs → r ∈ bf xs fs
 | [], _, h => h
 | _ :: fs, _, h => zm fs (yt h)
theorem Bw {r : dx} : (fs : aM) → {xs : aM} → r ∈ bf xs fs → r ∈ fs ∨ r ∈ xs
 | [], _, h => .inr h
 | f :: fs, xs, h => by
   rcases Bw fs h with h | h
   · exact .inl (List.mem_cons_of_mem _ h)
   · rcases uk h with rfl | h
     · exact .inl List.mem_cons_self
     · exact .inr h
theorem HC {c2 d : Int} {lv : dy} {tx : List (ByteArray × Unit)} {k j : Nat} (hc : 0 ≤ c2 ∧ c2 + ((k : Nat) : Int) ≤ 60) (hd : 1 ≤ d ∧ d ≤ 5) (hk : k ≤ tx.length) (hs : gM tx tx.length) (hj : j < k) : jX (uM c2 d lv tx j) := by
 have h1 : j < tx.length := by omega
 have hgt : (tx.getD j (ByteArray.empty, ())).1 = tx[j].1 := by rw [List.getD_eq_getElem?_getD, List.getElem?_eq_getElem h1, Option.getD_some]
 refine ⟨⟨?_, ?_⟩, hd, ?_, ?_⟩
 · show 1 ≤ c2 + ((j + 1 : Nat) : Int); omega
 · show c2 + ((j + 1 : Nat) : Int) ≤ 60; omega
 · show 1 ≤ (bif decide (j < lv.length) && decide ((lv.getD j ((0 : Int), ())).1 = 2) then (2 : Int) else 1) ∧ (bif decide (j < lv.length) && decide ((lv.getD j ((0 : Int), ())).1 = 2) then (2 : Int) else 1) ≤ 2
   cases decide (j < lv.length) && decide ((lv.getD j ((0 : Int), ())).1 = 2) <;> decide
 · show ByteArray.size (tx.getD j (ByteArray.empty, ())).1 ≤ 60; rw [hgt]; exact hs j h1 h1
theorem zn {c2 d : Int} {lv : dy} {tx : List (ByteArray × Unit)} {k : Nat} (hc : 0 ≤ c2 ∧ c2 + ((k : Nat) : Int) ≤ 60) (hd : 1 ≤ d ∧ d ≤ 5) (hk : k ≤ tx.length) (hs : gM tx tx.length) : ∀ f ∈ cU c2 d lv tx k, jX f := by
 intro f hf; unfold cU at hf; obtain ⟨j, hj, rfl⟩ := List.mem_map.1 hf; exact HC hc hd hk hs (List.mem_range.1 hj)
def q7 (t : kt) (xs : aM) : aM := xs.filter fun r => decide (r.1 ∈ aZ t.2.2.2.2.2.1)
theorem MT (t : kt) (xs : aM) (h : xs.length ≤ 1048576) (hw : t.2.2.2.2.2.1.length ≤ 1048576) : qS t.1 t.2.1 t.2.2.1 t.2.2.2.1 t.2.2.2.2.1 t.2.2.2.2.2.1 xs = some (q7 t xs, ()) ∧ qW t.1 t.2.1 t.2.2.1 t.2.2.2.1 t.2.2.2.2.1 t.2.2.2.2.2.1 xs = some (q7 t xs, ()) := by
 have hlen : ∀ k, ((xs.take k).filter fun r => decide (r.1 ∈ aZ t.2.2.2.2.2.1)).length ≤ k := fun k => Nat.le_trans (List.length_filter_le _ _) (List.length_take_le _ _)
 constructor
 · have hl := ee (round := jy) (e := .inl (q7 t xs, ())) xs.length (fun k => (xs, t.1, t.2.1, t.2.2.1, t.2.2.2.1, t.2.2.2.2.1, t.2.2.2.2.2.1, (xs.take k).filter (fun r => decide (r.1 ∈ aZ t.2.2.2.2.2.1)), ((k : Nat) : Int), ())) (by
     simp only [jy, rU, aF, cond_false, List.take_length, q7]) (fun k hk => by
     have q8 := hlen k; simp only [jy, rU, az hk, aq, cond_true, aC, List.getElem?_eq_getElem hk, Option.bind_some, DM _ _ hw, aH (show (((xs.take k).filter fun r => decide (r.1 ∈ aZ t.2.2.2.2.2.1)).length + 1) * 40 ≤ lim by unfold lim; omega), aJ (show k < 4611686018427387904 by omega)]; rw [List.take_succ_eq_append_getElem hk, List.filter_append]
     cases hp : decide (xs[k].1 ∈ aZ t.2.2.2.2.2.1)
     · rw [List.filter_cons_of_neg (by rw [hp]; simp)]; simp
     · rw [List.filter_cons_of_pos (by rw [hp])]; rfl)
   have hl : aE jy (xs, t.1, t.2.1, t.2.2.1, t.2.2.2.1, t.2.2.2.2.1, t.2.2.2.2.2.1, [], (0 : Int), ()) = _ := hl; unfold qS; rw [hl]; rfl
 · have hl := ee (round := jB) (e := .inl (q7 t xs, ())) xs.length (fun k => (t.1, t.2.1, t.2.2.1, t.2.2.2.1, t.2.2.2.2.1, t.2.2.2.2.2.1, (xs.take k).filter (fun r => decide (r.1 ∈ aZ t.2.2.2.2.2.1)), xs, ((List.length xs : Nat) : Int), ((k : Nat) : Int), ())) (by
     simp only [jB, sq, aF, cond_false, List.take_length, q7]) (fun k hk => by
     have q8 := hlen k; simp only [jB, sq, az hk, aq, cond_true, aC, List.getElem?_eq_getElem hk, Option.bind_some, DN _ _ hw, aH (show (((xs.take k).filter fun r => decide (r.1 ∈ aZ t.2.2.2.2.2.1)).length + 1) * 40 ≤ lim by unfold lim; omega), aJ (show k < 4611686018427387904 by omega)]; rw [List.take_succ_eq_append_getElem hk, List.filter_append]
     cases hp : decide (xs[k].1 ∈ aZ t.2.2.2.2.2.1)
     · rw [List.filter_cons_of_neg (by rw [hp]; simp)]; simp
     · rw [List.filter_cons_of_pos (by rw [hp])]; rfl)
   have hl : aE jB (t.1, t.2.1, t.2.2.1, t.2.2.2.1, t.2.2.2.2.1, t.2.2.2.2.2.1, [], xs, ((List.length xs : Nat) : Int), (0 : Int), ()) = _ := hl; unfold qW; rw [hl]; rfl
theorem FB {t : kt} {xs : aM} {r : dx} (h : r ∈ q7 t xs) : r ∈ xs := (List.mem_filter.1 h).1
theorem FD (t : kt) (xs : aM) : (q7 t xs).length ≤ xs.length := List.length_filter_le _ _
end Go.TM
