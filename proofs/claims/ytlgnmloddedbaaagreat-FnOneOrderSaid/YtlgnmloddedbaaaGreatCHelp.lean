/- Sizes, copies, sameness: what the laws' own helping functions answer. -/
import Derived.Test.YtlgnmloddedbaaaGreatCF2
set_option linter.unusedSimpArgs false
set_option linter.unusedVariables false
namespace Go.TM
open Go
def Hq (_ : Int × Unit) : Nat := 0
def pG (x : qQ) : Nat := ByteArray.size x.2.2.2.1
def Zg (x : ByteArray × Unit) : Nat := ByteArray.size x.1
end Go.TM
set_option linter.unusedSimpArgs false
set_option linter.unusedVariables false
namespace Go.TM
open Go
end Go.TM
set_option linter.unusedSimpArgs false
set_option linter.unusedVariables false
namespace Go.TM
open Go
end Go.TM
set_option linter.unusedSimpArgs false
set_option linter.unusedVariables false
namespace Go.TM
open Go
theorem oQ (a b c : Int) : bu a b c = some (decide (b ≤ a) && decide (a ≤ c), ()) := by
 unfold bu
 cases decide (b ≤ a) <;> rfl
theorem sB (a b c : Int) : bA a b c = some (decide (b ≤ a) && decide (a ≤ c), ()) := by
 unfold bA
 cases decide (b ≤ a) <;> rfl
theorem qy (a : Int) : iS a = some (decide (1 ≤ a) && decide (a ≤ 5), ()) := by
 unfold iS; rw [sB]; rfl
def Co {A B : Type} : Sum A (Bool × Unit) → Sum B (Bool × Unit) → Prop
 | .inl _, .inl _ => True
 | .inr a, .inr b => a.1 = b.1
 | _, _ => False
theorem qz {k : Nat} (h0 : 0 < k) (h : k < 4611686018427387904) : IntKind.i64.wrap (((k : Nat) : Int) - (1 : Int)) = (((k - 1 : Nat)) : Int) := by
 rw [fP] <;> omega
theorem NI (c : Int) (xs : List (Int × Unit)) (h : xs.length ≤ 1048576) :
   ∃ e f, aA dZ (c, xs, (0 : Int), ()) = some e ∧ aA kI (c, xs, xs, ((List.length xs : Nat) : Int), (0 : Int), ()) = some f ∧ Co e f := by
 refine mL xs.length (fun k x y => x = (c, xs, ((k : Nat) : Int), ()) ∧ y = (c, xs, xs, ((List.length xs : Nat) : Int), ((k : Nat) : Int), ())) Co ?_ ⟨rfl, rfl⟩
 rintro k x y hk ⟨rfl, rfl⟩
 by_cases bN : k < xs.length
 · simp only [dZ, kE, kI, q9, aw bN, ak, cond_true, au, List.getElem?_eq_getElem bN, Option.bind_some, oQ, qy, aC (show k < 4611686018427387904 by omega)]
   cases (decide (1 ≤ xs[k].1) && decide (xs[k].1 ≤ 5))
   · exact .inl ⟨.inr (false, ()), .inr (false, ()), rfl, rfl, rfl⟩
   · by_cases h0 : 0 < k
     · have hp : k - 1 < xs.length := by omega
       rw [qz h0 (by omega)]; simp only [af (show (0 : Int) < ((k : Nat) : Int) by omega), Bool.not_true, cond_false, cond_true, ak, au, List.getElem?_eq_getElem hp, Option.bind_some]
       cases decide (xs[k].1 ≤ xs[k - 1].1)
       · exact .inr ⟨bN, _, _, rfl, rfl, rfl, rfl⟩
       · exact .inl ⟨.inr (false, ()), .inr (false, ()), rfl, rfl, rfl⟩
     · have : k = 0 := by omega
       subst this; simp only [ai (show ¬ (0 : Int) < ((0 : Nat) : Int) by omega), Bool.not_true, cond_false]; exact .inr ⟨bN, _, _, rfl, rfl, rfl, rfl⟩
 · have : k = xs.length := by omega
   subst this; exact .inl ⟨.inl (), .inl (), by simp only [dZ, kE, az, cond_false], by simp only [kI, q9, az, cond_false], trivial⟩
theorem A7 (c : Int) (xs : List (Int × Unit)) (h : xs.length ≤ 1048576) : ∃ b, cE c xs = some (b, ()) ∧ ev c xs = some (b, ()) ∧ (b = true → 1 ≤ xs.length ∧ xs.length ≤ 5) := by
 obtain ⟨e, f, h1, h2, h3⟩ := NI c xs h; unfold cE ev; simp only [oQ, sB, Option.bind_some, h1, h2]
 cases (decide (1 ≤ c) && decide (c ≤ 9))
 · exact ⟨false, rfl, rfl, fun h => by cases h⟩
 cases hb : (decide (1 ≤ ((List.length xs : Nat) : Int)) && decide (((List.length xs : Nat) : Int) ≤ 5))
 · exact ⟨false, rfl, rfl, fun h => by cases h⟩
 have hl : 1 ≤ xs.length ∧ xs.length ≤ 5 := by
   rw [Bool.and_eq_true, decide_eq_true_eq, decide_eq_true_eq] at hb; omega
 cases e with
 | inl e => cases f with
   | inl f => exact ⟨true, rfl, rfl, fun _ => hl⟩
   | inr f => exact h3.elim
 | inr e => cases f with
   | inl f => exact h3.elim
   | inr f => exact ⟨e.1, rfl, by rw [show e.1 = f.1 from h3]; rfl, fun _ => hl⟩
end Go.TM
set_option linter.unusedSimpArgs false
set_option linter.unusedVariables false
namespace Go.TM
open Go
def T8 (e : Sum Unit (Bool × Unit)) (f : Sum Unit (Int × Unit)) : Prop := ∃ b, (e = .inl () ∧ f = .inl () ∧ b = false) ∨ (e = .inr (true, ()) ∧ (∃ k : Nat, f = .inr (((k : Nat) : Int), ())) ∧ b = true)
theorem SH (d : Int) (xs : List (Int × Unit)) (h : xs.length ≤ 1048576) :
   ∃ e f, aA cC (xs, d, (0 : Int), ()) = some e ∧ aA bl (xs, d, ((List.length xs : Nat) : Int), (0 : Int), ()) = some f ∧ T8 e f := by
 refine mL xs.length (fun k x y => x = (xs, d, ((k : Nat) : Int), ()) ∧ y = (xs, d, ((List.length xs : Nat) : Int), ((k : Nat) : Int), ())) T8 ?_ ⟨rfl, rfl⟩
 rintro k x y hk ⟨rfl, rfl⟩
 by_cases bN : k < xs.length
 · simp only [cC, iR, bl, dk, aw bN, ak, cond_true, au, List.getElem?_eq_getElem bN, Option.bind_some, aC (show k < 4611686018427387904 by omega)]
   by_cases hd : xs[k].1 = d
   · rw [af hd, af hd.symm]; exact .inl ⟨.inr (true, ()), .inr (((k : Nat) : Int), ()), rfl, rfl, true, .inr ⟨rfl, ⟨k, rfl⟩, rfl⟩⟩
   · rw [ai hd, ai (fun e => hd e.symm)]; exact .inr ⟨bN, _, _, rfl, rfl, rfl, rfl⟩
 · have : k = xs.length := by omega
   subst this; exact .inl ⟨.inl (), .inl (), by simp only [cC, iR, az, cond_false], by simp only [bl, dk, az, cond_false], false, .inl ⟨rfl, rfl, rfl⟩⟩
theorem sC (d : Int) (xs : List (Int × Unit)) (h : xs.length ≤ 1048576) : ∃ b, dF xs d = some (b, ()) ∧ bX xs d = some (b, ()) := by
 obtain ⟨e, f, h1, h2, b, h3⟩ := SH d xs h; unfold dF bX jk; rw [h1, h2]; rcases h3 with ⟨rfl, rfl, rfl⟩ | ⟨rfl, ⟨k, rfl⟩, rfl⟩
 · exact ⟨false, rfl, rfl⟩
 · refine ⟨true, rfl, ?_⟩; simp only [bz, Option.bind_some, ak]
end Go.TM
set_option linter.unusedSimpArgs false
set_option linter.unusedVariables false
namespace Go.TM
open Go
def Qw (t : Int × Int × Int × Int × Int × (List (Int × Unit)) × Unit) : Sum Unit (Bool × Unit) → Sum (Int × Int × Int × Int × Int × (List (Int × Unit)) × Unit) (Bool × Unit) → Prop
 | .inl _, .inl z => z = t
 | .inr a, .inr b => a.1 = false ∧ b.1 = false
 | _, _ => False
theorem KR (c0 c1 c2 c3 c4 : Int) (xs : List (Int × Unit)) (h : xs.length ≤ 1048576) :
   ∃ e f, aA dC (c0, c1, c2, c3, c4, xs, (0 : Int), ()) = some e ∧ aA jL (c0, c1, c2, c3, c4, xs, xs, ((List.length xs : Nat) : Int), (0 : Int), ()) = some f ∧ Qw (c0, c1, c2, c3, c4, xs, ()) e f := by
 refine mL xs.length (fun k x y => x = (c0, c1, c2, c3, c4, xs, ((k : Nat) : Int), ()) ∧ y = (c0, c1, c2, c3, c4, xs, xs, ((List.length xs : Nat) : Int), ((k : Nat) : Int), ())) (Qw (c0, c1, c2, c3, c4, xs, ())) ?_ ⟨rfl, rfl⟩
 rintro k x y hk ⟨rfl, rfl⟩
 by_cases bN : k < xs.length
 · simp only [dC, jI, jL, pr, aw bN, ak, cond_true, au, List.getElem?_eq_getElem bN, Option.bind_some, oQ, sB, aC (show k < 4611686018427387904 by omega)]
   cases (decide (1 ≤ xs[k].1) && decide (xs[k].1 ≤ c2))
   · exact .inl ⟨.inr (false, ()), .inr (false, ()), rfl, rfl, rfl, rfl⟩
   · by_cases h0 : 0 < k
     · have hp : k - 1 < xs.length := by omega
       rw [qz h0 (by omega)]; simp only [af (show (0 : Int) < ((k : Nat) : Int) by omega), Bool.not_true, cond_false, cond_true, ak, au, List.getElem?_eq_getElem hp, Option.bind_some]
       cases decide (xs[k].1 ≤ xs[k - 1].1)
       · exact .inr ⟨bN, _, _, rfl, rfl, rfl, rfl⟩
       · exact .inl ⟨.inr (false, ()), .inr (false, ()), rfl, rfl, rfl, rfl⟩
     · have : k = 0 := by omega
       subst this; simp only [ai (show ¬ (0 : Int) < ((0 : Nat) : Int) by omega), Bool.not_true, cond_false]; exact .inr ⟨bN, _, _, rfl, rfl, rfl, rfl⟩
 · have : k = xs.length := by omega
   subst this; exact .inl ⟨.inl (), .inl (c0, c1, c2, c3, c4, xs, ()), by simp only [dC, jI, az, cond_false], by simp only [jL, pr, az, cond_false], rfl⟩
theorem uO (c0 c1 c2 c3 c4 : Int) (xs : List (Int × Unit)) (h : xs.length ≤ 1048576) : ∃ b, db c0 c1 c2 c3 c4 xs = some (b, ()) ∧ fU c0 c1 c2 c3 c4 xs = some (b, ()) ∧ (b = true → 0 ≤ c2 ∧ c2 ≤ 60 ∧ 0 ≤ c3 ∧ c3 ≤ c2 ∧ xs.length ≤ 20 ∧ (∀ y ∈ [c0, c1], 1 ≤ y)) := by
 obtain ⟨e, f, h1, h2, h3⟩ := KR c0 c1 c2 c3 c4 xs h; unfold db fU; simp only [oQ, sB, Option.bind_some, h1, h2]
 cases q0 : (decide (1 ≤ c0) && decide (c0 ≤ 9))
 · exact ⟨false, rfl, rfl, fun h => by cases h⟩
 cases q1 : (decide (1 ≤ c1) && decide (c1 ≤ 1000000000))
 · exact ⟨false, rfl, rfl, fun h => by cases h⟩
 cases q2 : (decide (0 ≤ c2) && decide (c2 ≤ 60))
 · exact ⟨false, rfl, rfl, fun h => by cases h⟩
 cases e with
 | inl e => cases f with
   | inl f =>
     have h3 : f = (c0, c1, c2, c3, c4, xs, ()) := h3; subst h3; simp only [bz, Option.bind_some, sB, Bool.not_true, cond_false]
     cases q3 : (decide (0 ≤ c3) && decide (c3 ≤ c2))
     · exact ⟨false, rfl, rfl, fun h => by cases h⟩
     cases (decide (0 ≤ c4) && decide (c4 ≤ 5))
     · exact ⟨false, rfl, rfl, fun h => by cases h⟩
     by_cases hl : ((List.length xs : Nat) : Int) ≤ 20
     · rw [af hl, ai (show ¬ (20 : Int) < ((List.length xs : Nat) : Int) by omega)]; refine ⟨true, rfl, rfl, fun _ => ?_⟩; rw [Bool.and_eq_true, decide_eq_true_eq, decide_eq_true_eq] at q0 q1 q2 q3; refine ⟨q2.1, q2.2, q3.1, q3.2, by omega, fun y hy => ?_⟩; rcases List.mem_cons.1 hy with rfl | hy
       · exact q0.1
       · rcases List.mem_cons.1 hy with rfl | hy
         · exact q1.1
         · cases hy
     · rw [ai hl, af (show (20 : Int) < ((List.length xs : Nat) : Int) by omega)]; exact ⟨false, rfl, rfl, fun h => by cases h⟩
   | inr f => exact h3.elim
 | inr e => cases f with
   | inl f => exact h3.elim
   | inr f =>
     obtain ⟨e1, e2⟩ := (show e.1 = false ∧ f.1 = false from h3); refine ⟨false, ?_, by rw [← e2]; rfl, fun h => by cases h⟩
     cases (decide (0 ≤ c3) && decide (c3 ≤ c2))
     · rfl
     cases (decide (0 ≤ c4) && decide (c4 ≤ 5))
     · rfl
     cases decide ((20 : Int) < ((List.length xs : Nat) : Int))
     · show some (e.1, ()) = some (false, ()); rw [e1]
     · rfl
theorem n5 (xs : List (Int × Unit)) (h : xs.length ≤ 1048576) : eN xs = some (xs, ()) := by
 unfold eN; rw [aF (show (0 + xs.length) * 8 ≤ lim by unfold lim; omega)]; rfl
theorem fY (c0 c1 c2 c3 c4 : Int) (xs : List (Int × Unit)) (h : xs.length ≤ 1048576) : aI c0 c1 c2 c3 c4 xs = some (c0, c1, c2, c3, c4, xs, ()) ∧ cA c0 c1 c2 c3 c4 xs = some (c0, c1, c2, c3, c4, xs, ()) := by
 constructor
 · unfold aI; rw [aF (show (0 + xs.length) * 8 ≤ lim by unfold lim; omega)]; rfl
 · unfold cA; rw [n5 xs h]; rfl
def uP (c2 : Int) (xs : List (Int × Unit)) (n : Nat) : Prop := ∀ k (h : k < xs.length), k < n → 1 ≤ xs[k].1 ∧ xs[k].1 ≤ c2 ∧ ∀ h0 : 0 < k, xs[k - 1].1 < xs[k].1
def Ys (c0 c1 c2 c3 c4 : Int) (xs : List (Int × Unit)) : Prop := (1 ≤ c0 ∧ c0 ≤ 9) ∧ (1 ≤ c1 ∧ c1 ≤ 1000000000) ∧ (0 ≤ c2 ∧ c2 ≤ 60) ∧ (0 ≤ c3 ∧ c3 ≤ c2) ∧ (0 ≤ c4 ∧ c4 ≤ 5) ∧ xs.length ≤ 20 ∧ uP c2 xs xs.length
theorem F6 (c0 c1 c2 c3 c4 : Int) (xs : List (Int × Unit)) (h : xs.length ≤ 1048576) : ∃ b, db c0 c1 c2 c3 c4 xs = some (b, ()) ∧ fU c0 c1 c2 c3 c4 xs = some (b, ()) ∧ (b = true ↔ Ys c0 c1 c2 c3 c4 xs) := by
 obtain ⟨b, h1, h2, _⟩ := uO c0 c1 c2 c3 c4 xs h; refine ⟨b, h1, h2, ?_⟩; obtain ⟨e, he, hq⟩ := dV (round := dC) (x := (c0, c1, c2, c3, c4, xs, ((0 : Nat) : Int), ())) xs.length (fun k x => x = (c0, c1, c2, c3, c4, xs, ((k : Nat) : Int), ()) ∧ uP c2 xs k)
   (fun e => (e = .inl () ∧ uP c2 xs xs.length) ∨ (e = .inr (false, ()) ∧ ¬ uP c2 xs xs.length)) (by
     rintro x ⟨rfl, g⟩
     exact ⟨.inl (), by simp only [dC, jI, az, cond_false], .inl ⟨rfl, g⟩⟩) (by
     rintro k x bN ⟨rfl, g⟩
     simp only [dC, jI, aw bN, ak, cond_true, au, List.getElem?_eq_getElem bN, Option.bind_some, oQ, aC (show k < 4611686018427387904 by omega)]; have more : 1 ≤ xs[k].1 → xs[k].1 ≤ c2 → (∀ h0 : 0 < k, xs[k - 1].1 < xs[k].1) → uP c2 xs (k + 1) := by
       intro w1 w2 w3 j hj Ik
       by_cases e : j < k
       · exact g j hj e
       · have : j = k := by omega
         subst this; exact ⟨w1, w2, w3⟩
     cases Cd : (decide (1 ≤ xs[k].1) && decide (xs[k].1 ≤ c2))
     · refine .inl ⟨.inr (false, ()), rfl, .inr ⟨rfl, fun hn => ?_⟩⟩; obtain ⟨w1, w2, _⟩ := hn k bN bN; rw [af w1, af w2] at Cd
       cases Cd
     · rw [Bool.and_eq_true, decide_eq_true_eq, decide_eq_true_eq] at Cd
       by_cases h0 : 0 < k
       · have hp : k - 1 < xs.length := by omega
         rw [qz h0 (by omega)]; simp only [af (show (0 : Int) < ((k : Nat) : Int) by omega), Bool.not_true, cond_false, cond_true, ak, au, List.getElem?_eq_getElem hp, Option.bind_some]
         by_cases hd : xs[k].1 ≤ xs[k - 1].1
         · rw [af hd]; refine .inl ⟨.inr (false, ()), rfl, .inr ⟨rfl, fun hn => ?_⟩⟩; have := (hn k bN bN).2.2 h0; omega
         · rw [ai hd]; exact .inr ⟨_, rfl, rfl, more Cd.1 Cd.2 (fun _ => by omega)⟩
       · have : k = 0 := by omega
         subst this; simp only [ai (show ¬ (0 : Int) < ((0 : Nat) : Int) by omega), Bool.not_true, cond_false]; exact .inr ⟨_, rfl, rfl, more Cd.1 Cd.2 (fun h0 => absurd h0 (Nat.lt_irrefl 0))⟩) ⟨rfl, fun j _ h => by omega⟩
 have he : aA dC (c0, c1, c2, c3, c4, xs, (0 : Int), ()) = some e := he; unfold db at h1; simp only [oQ, Option.bind_some, he] at h1; have no : ∀ {p : Prop}, (some (false, ()) : Option (Bool × Unit)) = some (b, ()) → ¬ p → (b = true ↔ p) := by
   intro p e1 hp; injection e1 with e1; injection e1 with e1; subst e1; exact ⟨(fun h => by cases h), fun h => absurd h hp⟩
 have yes : ∀ {p : Prop}, (some (true, ()) : Option (Bool × Unit)) = some (b, ()) → p → (b = true ↔ p) := by
   intro p e1 hp; injection e1 with e1; injection e1 with e1; subst e1; exact ⟨fun _ => hp, fun _ => rfl⟩
 by_cases q0 : 1 ≤ c0 ∧ c0 ≤ 9
 case neg =>
   rw [show (decide (1 ≤ c0) && decide (c0 ≤ 9)) = false by rw [Bool.and_eq_false_iff, decide_eq_false_iff_not, decide_eq_false_iff_not]; omega] at h1; exact no h1 (fun h => q0 h.1)
 rw [af q0.1, af q0.2] at h1
 by_cases q1 : 1 ≤ c1 ∧ c1 ≤ 1000000000
 case neg =>
   rw [show (decide (1 ≤ c1) && decide (c1 ≤ 1000000000)) = false by rw [Bool.and_eq_false_iff, decide_eq_false_iff_not, decide_eq_false_iff_not]; omega] at h1; exact no h1 (fun h => q1 h.2.1)
 rw [af q1.1, af q1.2] at h1
 by_cases q2 : 0 ≤ c2 ∧ c2 ≤ 60
 case neg =>
   rw [show (decide (0 ≤ c2) && decide (c2 ≤ 60)) = false by rw [Bool.and_eq_false_iff, decide_eq_false_iff_not, decide_eq_false_iff_not]; omega] at h1; exact no h1 (fun h => q2 h.2.2.1)
 rw [af q2.1, af q2.2] at h1
 by_cases q3 : 0 ≤ c3 ∧ c3 ≤ c2
 case neg =>
   rw [show (decide (0 ≤ c3) && decide (c3 ≤ c2)) = false by rw [Bool.and_eq_false_iff, decide_eq_false_iff_not, decide_eq_false_iff_not]; omega] at h1; exact no h1 (fun h => q3 h.2.2.2.1)
 rw [af q3.1, af q3.2] at h1
 by_cases q4 : 0 ≤ c4 ∧ c4 ≤ 5
 case neg =>
   rw [show (decide (0 ≤ c4) && decide (c4 ≤ 5)) = false by rw [Bool.and_eq_false_iff, decide_eq_false_iff_not, decide_eq_false_iff_not]; omega] at h1; exact no h1 (fun h => q4 h.2.2.2.2.1)
 rw [af q4.1, af q4.2] at h1
 by_cases q5 : (20 : Int) < ((List.length xs : Nat) : Int)
 · rw [af q5] at h1; exact no h1 (fun h => by have := h.2.2.2.2.2.1; omega)
 rw [ai q5] at h1; rcases hq with ⟨rfl, q⟩ | ⟨rfl, q⟩
 · exact yes h1 ⟨q0, q1, q2, q3, q4, by omega, q⟩
 · exact no h1 (fun h => q h.2.2.2.2.2.2)
end Go.TM
set_option linter.unusedSimpArgs false
set_option linter.unusedVariables false
namespace Go.TM
open Go
theorem wB (a : Int) : jB a = some (decide (1 ≤ a) && decide (a ≤ 2), ()) := by
 unfold jB
 by_cases h1 : a = 1
 · subst h1; rfl
 by_cases h2 : a = 2
 · subst h2; rfl
 have e : (decide (1 ≤ a) && decide (a ≤ 2)) = false := by
   rw [Bool.and_eq_false_iff, decide_eq_false_iff_not, decide_eq_false_iff_not]; omega
 rw [e, ai h1, ai h2]; rfl
theorem NJ (a b c : Int) (s : ByteArray) : ∃ x, iw a b c s = some (x, ()) ∧ js a b c s = some (x, ()) := by
 unfold iw js; simp only [oQ, sB, qy, wB, Option.bind_some]
 cases (decide (1 ≤ a) && decide (a ≤ 60))
 · exact ⟨_, rfl, rfl⟩
 cases (decide (1 ≤ b) && decide (b ≤ 5))
 · exact ⟨_, rfl, rfl⟩
 cases (decide (1 ≤ c) && decide (c ≤ 2))
 · exact ⟨_, rfl, rfl⟩
 · exact ⟨_, rfl, rfl⟩
theorem KS (xs : List (Int × Int × Int × ByteArray × Unit)) (h : xs.length ≤ 1048576) :
   ∃ e f, aA dB (xs, (0 : Int), ()) = some e ∧ aA jK (xs, xs, ((List.length xs : Nat) : Int), (0 : Int), ()) = some f ∧ Co e f := by
 refine mL xs.length (fun k x y => x = (xs, ((k : Nat) : Int), ()) ∧ y = (xs, xs, ((List.length xs : Nat) : Int), ((k : Nat) : Int), ())) Co ?_ ⟨rfl, rfl⟩
 rintro k x y hk ⟨rfl, rfl⟩
 by_cases bN : k < xs.length
 · obtain ⟨b, r1, r2⟩ := NJ xs[k].1 xs[k].2.1 xs[k].2.2.1 xs[k].2.2.2.1; simp only [dB, jH, jK, po, aw bN, ak, cond_true, au, List.getElem?_eq_getElem bN, Option.bind_some, r1, r2, aC (show k < 4611686018427387904 by omega)]
   cases b
   · exact .inl ⟨.inr (false, ()), .inr (false, ()), rfl, rfl, rfl⟩
   · by_cases h0 : 0 < k
     · have hp : k - 1 < xs.length := by omega
       rw [qz h0 (by omega)]; simp only [af (show (0 : Int) < ((k : Nat) : Int) by omega), Bool.not_true, cond_false, cond_true, ak, au, List.getElem?_eq_getElem hp, Option.bind_some]
       cases decide (xs[k].1 ≤ xs[k - 1].1)
       · exact .inr ⟨bN, _, _, rfl, rfl, rfl, rfl⟩
       · exact .inl ⟨.inr (false, ()), .inr (false, ()), rfl, rfl, rfl⟩
     · have : k = 0 := by omega
       subst this; simp only [ai (show ¬ (0 : Int) < ((0 : Nat) : Int) by omega), Bool.not_true, cond_false]; exact .inr ⟨bN, _, _, rfl, rfl, rfl, rfl⟩
 · have : k = xs.length := by omega
   subst this; exact .inl ⟨.inl (), .inl (), by simp only [dB, jH, az, cond_false], by simp only [jK, po, az, cond_false], trivial⟩
theorem D3 (xs : List (Int × Int × Int × ByteArray × Unit)) (h : xs.length ≤ 1048576) : ∃ b, fT xs = some (b, ()) ∧ jC xs = some (b, ()) := by
 obtain ⟨e, f, h1, h2, h3⟩ := KS xs h; unfold fT jC; rw [h1, h2]
 cases e with
 | inl e => cases f with
   | inl f => exact ⟨true, rfl, rfl⟩
   | inr f => exact h3.elim
 | inr e => cases f with
   | inl f => exact h3.elim
   | inr f => exact ⟨e.1, rfl, by rw [show e.1 = f.1 from h3]; rfl⟩
abbrev cu : Type := Int × Int × Int × ByteArray × Unit
abbrev aG : Type := List cu
def dm (xs : aG) (s : Int) : Option cu := xs.find? fun r => decide (r.1 = s)
def ns : Option cu → Int × Int × Int × ByteArray × Bool × Unit
 | none => (0, 0, 0, ByteArray.empty, false, ())
 | some r => (r.1, r.2.1, r.2.2.1, r.2.2.2.1, true, ())
def LV : Option cu → Sum (Int × Int × Int × ByteArray × Unit) (Int × Int × Int × ByteArray × Bool × Unit)
 | none => .inl (0, 0, 0, ByteArray.empty, ())
 | some r => .inr (ns (some r))
theorem F8 (xs : aG) (s : Int) {k : Nat} (hk : k < xs.length) : dm (xs.drop k) s = if xs[k].1 = s then some xs[k] else dm (xs.drop (k + 1)) s := by
 unfold dm; rw [List.drop_eq_getElem_cons hk, List.find?_cons]
 by_cases h : xs[k].1 = s
 · rw [af h, if_pos h]
 · rw [ai h, if_neg h]
theorem oR (xs : aG) (s : Int) (h : xs.length ≤ 1048576) : gd xs s = some (ns (dm xs s)) := by
 have hl := sV (round := jh) (n := xs.length) (fun k => (xs, s, (0 : Int), (0 : Int), (0 : Int), ByteArray.empty, ((k : Nat) : Int), ())) (fun k => some (LV (dm (xs.drop k) s)))
   ⟨.inl (0, 0, 0, ByteArray.empty, ()), by simp only [jh, qU, az, cond_false], by rw [List.drop_length]; rfl⟩ (fun k hk => by
     rw [F8 xs s hk]; simp only [jh, qU, aw hk, ak, cond_true, au, List.getElem?_eq_getElem hk, Option.bind_some, aC (show k < 4611686018427387904 by omega)]
     by_cases h : xs[k].1 = s
     · rw [af h, if_pos h]; exact .inl ⟨_, rfl, rfl⟩
     · rw [ai h, if_neg h]; exact .inr ⟨rfl, rfl⟩) 0 (Nat.zero_le _)
 unfold gd; have hl : aA jh (xs, s, (0 : Int), (0 : Int), (0 : Int), ByteArray.empty, (0 : Int), ()) = _ := hl; rw [hl, List.drop_zero]
 cases dm xs s <;> rfl
theorem sj (xs : aG) (s : Int) (h : xs.length ≤ 1048576) : kJ xs s = some (ns (dm xs s)) := by
 have hl := sV (round := jm) (n := xs.length) (fun k => (s, (0 : Int), (0 : Int), (0 : Int), ByteArray.empty, xs, ((List.length xs : Nat) : Int), ((k : Nat) : Int), ())) (fun k => some (LV (dm (xs.drop k) s)))
   ⟨.inl (0, 0, 0, ByteArray.empty, ()), by simp only [jm, ra, az, cond_false], by rw [List.drop_length]; rfl⟩ (fun k hk => by
     rw [F8 xs s hk]; simp only [jm, ra, aw hk, ak, cond_true, au, List.getElem?_eq_getElem hk, Option.bind_some, aC (show k < 4611686018427387904 by omega)]
     by_cases h : xs[k].1 = s
     · rw [af h, if_pos h]; exact .inl ⟨_, rfl, rfl⟩
     · rw [ai h, if_neg h]; exact .inr ⟨rfl, rfl⟩) 0 (Nat.zero_le _)
 unfold kJ; have hl : aA jm (s, (0 : Int), (0 : Int), (0 : Int), ByteArray.empty, xs, ((List.length xs : Nat) : Int), (0 : Int), ()) = _ := hl; rw [hl, List.drop_zero]
 cases dm xs s <;> rfl
theorem BU : (n : Nat) → (ys : List Int) → (∀ i, i < n → ((i + 1 : Nat) : Int) ∈ ys) → n ≤ ys.length
 | 0, _, _ => Nat.zero_le _
 | n + 1, ys, h => by
   have hm := h n (by omega); have := BU n (ys.erase ((n + 1 : Nat) : Int)) (fun i hi => (List.mem_erase_of_ne (by omega)).2 (h i (by omega))); rw [List.length_erase_of_mem hm] at this; have : 0 < ys.length := List.length_pos_of_mem hm; omega
theorem ru {xs : aG} {s : Int} {r : cu} (h : dm xs s = some r) : r ∈ xs ∧ r.1 = s := by
 unfold dm at h; exact ⟨List.mem_of_find?_eq_some h, by have := List.find?_some h; simpa using this⟩
def LW (xs : aG) (n : Nat) : Prop := n ≤ xs.length ∧ (∀ i, i < n → (dm xs ((i + 1 : Nat) : Int)).isSome = true) ∧ dm xs ((n + 1 : Nat) : Int) = none
theorem SI {xs : aG} (h : ∀ i, i < xs.length → (dm xs ((i + 1 : Nat) : Int)).isSome = true) : dm xs ((xs.length + 1 : Nat) : Int) = none := by
 cases hq : dm xs ((xs.length + 1 : Nat) : Int) with
 | none => rfl
 | some r =>
   have key := BU (xs.length + 1) (xs.map (·.1)) (fun i hi => by
     have : ∃ r, dm xs ((i + 1 : Nat) : Int) = some r := by
       by_cases Hv : i < xs.length
       · exact Option.isSome_iff_exists.1 (h i Hv)
       · have : i = xs.length := by omega
         subst this; exact ⟨r, hq⟩
     obtain ⟨r', hr⟩ := this; obtain ⟨m1, m2⟩ := ru hr; exact List.mem_map.2 ⟨r', m1, m2⟩)
   rw [List.length_map] at key; omega
theorem D4 (xs : aG) (h : xs.length ≤ 1048576) : ∃ n : Nat, gH xs = some (((n : Nat) : Int), ()) ∧ jD xs = some (((n : Nat) : Int), ()) ∧ LW xs n := by
 obtain ⟨e, f, h1, h2, n, h3⟩ : ∃ e f, aA oh (xs, (0 : Int), (0 : Int), ()) = some e ∧ aA ot (xs, (0 : Int), ()) = some f ∧ ∃ n : Nat, (e = .inl (((n : Nat) : Int), ()) ∨ e = .inr (((n : Nat) : Int), ())) ∧ f = .inr (((n : Nat) : Int), ()) ∧ LW xs n := by
   refine mL xs.length (fun k x y => x = (xs, ((k : Nat) : Int), ((k : Nat) : Int), ()) ∧ y = (xs, ((k : Nat) : Int), ()) ∧ ∀ i, i < k → (dm xs ((i + 1 : Nat) : Int)).isSome = true) _ ?_ ⟨rfl, rfl, fun i hi => by omega⟩
   rintro k x y hk ⟨rfl, rfl, qK⟩
   simp only [oh, xz, ot, xB, aC (show k < 4611686018427387904 by omega), oR xs _ h, sj xs _ h, Option.bind_some]
   by_cases bN : k < xs.length
   · rw [aw bN]
     cases hq : dm xs ((k + 1 : Nat) : Int) with
     | none => exact .inl ⟨.inr (((k : Nat) : Int), ()), .inr (((k : Nat) : Int), ()), rfl, rfl, k, .inr rfl, rfl, hk, qK, hq⟩
     | some r =>
       refine .inr ⟨bN, _, _, rfl, rfl, rfl, rfl, fun i hi => ?_⟩
       by_cases Hv : i < k
       · exact qK i Hv
       · have : i = k := by omega
         subst this; rw [hq]; rfl
   · have : k = xs.length := by omega
     subst this; have hq := SI qK; rw [az, hq]; exact .inl ⟨.inl (((xs.length : Nat) : Int), ()), .inr (((xs.length : Nat) : Int), ()), rfl, rfl, xs.length, .inl rfl, rfl, hk, qK, hq⟩
 obtain ⟨h3, rfl, h4⟩ := h3; unfold gH jD; rw [h1, h2]; refine ⟨n, ?_, rfl, h4⟩; rcases h3 with rfl | rfl <;> rfl
end Go.TM
set_option linter.unusedSimpArgs false
set_option linter.unusedVariables false
namespace Go.TM
open Go
end Go.TM
set_option linter.unusedSimpArgs false
set_option linter.unusedVariables false
namespace Go.TM
open Go
theorem Cp (xs : List (Int × Unit)) (d : Int) (h : xs.length ≤ 1048576) : dF xs d = some (decide ((d, ()) ∈ xs), ()) := by
 have hl := sV (round := cC) (n := xs.length) (fun k => (xs, d, ((k : Nat) : Int), ())) (fun k => some (if (d, ()) ∈ xs.drop k then .inr (true, ()) else .inl ()))
   ⟨.inl (), by simp only [cC, iR, az, cond_false], by rw [List.drop_length]; rfl⟩ (fun k hk => by
     rw [List.drop_eq_getElem_cons hk]; simp only [cC, iR, aw hk, ak, cond_true, au, List.getElem?_eq_getElem hk, Option.bind_some, aC (show k < 4611686018427387904 by omega)]
     by_cases e : xs[k].1 = d
     · rw [af e]; exact .inl ⟨_, rfl, by rw [if_pos (List.mem_cons.2 (.inl (by rw [← e])))]⟩
     · rw [ai e]; refine .inr ⟨rfl, ?_⟩; have : ((d, ()) ∈ xs[k] :: xs.drop (k + 1)) ↔ ((d, ()) ∈ xs.drop (k + 1)) := by
         rw [List.mem_cons]; exact ⟨fun h => h.resolve_left (fun q => e (by rw [← q])), .inr⟩
       by_cases q : (d, ()) ∈ xs.drop (k + 1)
       · rw [if_pos q, if_pos (this.2 q)]
       · rw [if_neg q, if_neg (fun z => q (this.1 z))]) 0 (Nat.zero_le _)
 unfold dF; have hl : aA cC (xs, d, (0 : Int), ()) = _ := hl; rw [hl, List.drop_zero]
 by_cases q : (d, ()) ∈ xs
 · rw [if_pos q, af q]; rfl
 · rw [if_neg q, ai q]; rfl
theorem LX (xs : List (Int × Unit)) (d : Int) (h : xs.length ≤ 1048576) : bX xs d = some (decide ((d, ()) ∈ xs), ()) := by
 obtain ⟨b, h1, h2⟩ := sC d xs h; rw [Cp xs d h] at h1; injection h1 with h1; injection h1 with h1 _; rw [h2, h1]
end Go.TM
set_option linter.unusedSimpArgs false
set_option linter.unusedVariables false
namespace Go.TM
open Go
def u5 (l : List (Int × Unit)) (n : Nat) : Prop := ∀ j (h : j < l.length), j < n → (decide (1 ≤ l[j].1) && decide (l[j].1 ≤ 2)) = true
def jd (l : List (ByteArray × Unit)) (n : Nat) : Prop := ∀ j (h : j < l.length), j < n → ByteArray.size l[j].1 ≤ 60
def Qx (lv : List (Int × Unit)) (tx : List (ByteArray × Unit)) : Sum (List (Int × Unit) × List (ByteArray × Unit) × Unit) (Bool × Unit) → Prop
 | .inl y => y = (lv, tx, ()) ∧ u5 lv (min lv.length tx.length) ∧ jd tx (min lv.length tx.length)
 | .inr b => b.1 = false ∧ ¬ (u5 lv (min lv.length tx.length) ∧ jd tx (min lv.length tx.length))
theorem D5 (lv : List (Int × Unit)) (tx : List (ByteArray × Unit)) (h1 : lv.length ≤ 1048576) (h2 : tx.length ≤ 1048576) : ∃ b, og lv tx = some (b, ()) ∧ (b = true ↔ tx.length ≤ 20 ∧ lv.length = tx.length ∧ u5 lv lv.length ∧ jd tx tx.length) := by
 obtain ⟨e, he, hq⟩ := dV (round := gl) (x := (lv, tx, ((0 : Nat) : Int), ())) (min lv.length tx.length) (fun k x => x = (lv, tx, ((k : Nat) : Int), ()) ∧ u5 lv k ∧ jd tx k) (Qx lv tx) (by
     rintro x ⟨rfl, g1, g2⟩
     refine ⟨.inl (lv, tx, ()), ?_, rfl, g1, g2⟩
     by_cases hb : min lv.length tx.length < tx.length
     · have e : min lv.length tx.length = lv.length := by omega
       simp only [gl, kU, aw hb, cond_true]; rw [e, az]; rfl
     · have e : min lv.length tx.length = tx.length := by omega
       simp only [gl, kU]; rw [e, az]; rfl) (by
     rintro k x hk ⟨rfl, g1, g2⟩
     have hl : k < lv.length := by omega
     have ht : k < tx.length := by omega
     simp only [gl, kU, aw hl, aw ht, ak, cond_true, au, List.getElem?_eq_getElem hl, List.getElem?_eq_getElem ht, Option.bind_some, oQ, aC (show k < 4611686018427387904 by omega)]
     cases hlv : (decide (1 ≤ lv[k].1) && decide (lv[k].1 ≤ 2))
     · refine .inl ⟨.inr (false, ()), rfl, rfl, fun hn => ?_⟩; have := hn.1 k hl (by omega); rw [hlv] at this
       cases this
     · by_cases hs : (60 : Int) < ((ByteArray.size tx[k].1 : Nat) : Int)
       · rw [af hs]; refine .inl ⟨.inr (false, ()), rfl, rfl, fun hn => ?_⟩; have := hn.2 k ht (by omega); omega
       · rw [ai hs]; refine .inr ⟨_, rfl, rfl, fun j hj Ik => ?_, fun j hj Ik => ?_⟩
         · by_cases e : j < k
           · exact g1 j hj e
           · have : j = k := by omega
             subst this; exact hlv
         · by_cases e : j < k
           · exact g2 j hj e
           · have : j = k := by omega
             subst this; omega) ⟨rfl, fun j _ h => by omega, fun j _ h => by omega⟩
 unfold og; rw [show (0 : Int) = ((0 : Nat) : Int) from rfl, he]
 cases e with
 | inr e =>
   obtain ⟨q1, q2⟩ := hq; refine ⟨false, by rw [← q1]; rfl, ⟨(fun h => by cases h), fun ⟨w1, w2, w3, w4⟩ => ?_⟩⟩; exact absurd ⟨fun j hj hm => w3 j hj hj, fun j hj hm => w4 j hj hj⟩ q2
 | inl e =>
   obtain ⟨q1, q2, q3⟩ := hq; subst q1; simp only [gG]
   by_cases w1 : ((List.length tx : Nat) : Int) ≤ 20
   · rw [af w1]; refine ⟨_, rfl, ?_⟩; rw [decide_eq_true_eq]
     constructor
     · intro w2; have w2 : lv.length = tx.length := by omega
       exact ⟨by omega, w2, fun j hj _ => q2 j hj (by omega), fun j hj _ => q3 j hj (by omega)⟩
     · rintro ⟨_, w2, _⟩
       rw [w2]
   · rw [ai w1]; exact ⟨false, rfl, ⟨(fun h => by cases h), fun ⟨w2, _⟩ => by omega⟩⟩
theorem KT (tx : List (ByteArray × Unit)) (h2 : tx.length ≤ 1048576) : ∃ b, oq tx = some (b, ()) ∧ (b = true ↔ jd tx tx.length) := by
 obtain ⟨e, he, hq⟩ := dV (round := jl) (x := (tx, ((List.length tx : Nat) : Int), ((0 : Nat) : Int), ())) tx.length (fun k x => x = (tx, ((List.length tx : Nat) : Int), ((k : Nat) : Int), ()) ∧ jd tx k) (fun e => (e = .inl () ∧ jd tx tx.length) ∨ (e = .inr (false, ()) ∧ ¬ jd tx tx.length)) (by
     rintro x ⟨rfl, g2⟩
     exact ⟨.inl (), by simp only [jl, nU, az, cond_false], .inl ⟨rfl, g2⟩⟩) (by
     rintro k x hk ⟨rfl, g2⟩
     simp only [jl, nU, aw hk, ak, cond_true, au, List.getElem?_eq_getElem hk, Option.bind_some, aC (show k < 4611686018427387904 by omega)]
     by_cases hs : (60 : Int) < ((ByteArray.size tx[k].1 : Nat) : Int)
     · rw [af hs]; refine .inl ⟨.inr (false, ()), rfl, .inr ⟨rfl, fun hn => ?_⟩⟩; have := hn k hk hk; omega
     · rw [ai hs]; refine .inr ⟨_, rfl, rfl, fun j hj Ik => ?_⟩
       by_cases e : j < k
       · exact g2 j hj e
       · have : j = k := by omega
         subst this; omega) ⟨rfl, fun j _ h => by omega⟩
 unfold oq; rw [show (0 : Int) = ((0 : Nat) : Int) from rfl, he]; rcases hq with ⟨rfl, q⟩ | ⟨rfl, q⟩
 · exact ⟨true, rfl, ⟨fun _ => q, fun _ => rfl⟩⟩
 · exact ⟨false, rfl, ⟨(fun h => by cases h), fun h => absurd h q⟩⟩
theorem D6 (c0 c1 c2 c3 c4 : Int) (xs : List (Int × Unit)) : ∃ b, dR c0 c1 c2 c3 c4 xs = some (b, ()) ∧ cI c0 c1 c2 c3 c4 xs = some (b, ()) := by
 unfold dR mR cI
 cases decide (c0 = 0)
 · exact ⟨_, rfl, rfl⟩
 cases decide (c1 = 0)
 · exact ⟨_, rfl, rfl⟩
 cases decide (c2 = 0)
 · exact ⟨_, rfl, rfl⟩
 cases decide (c3 = 0)
 · exact ⟨_, rfl, rfl⟩
 cases decide (c4 = 0)
 · exact ⟨_, rfl, rfl⟩
 cases xs with
 | nil =>
   have hl := bd (round := fK) (e := .inl ()) 0 (fun k => (([] : List (Int × Unit)), ([] : List (Int × Unit)), ((k : Nat) : Int), ())) (by
     simp only [fK, pN, List.length_nil, az, cond_false]) (fun k hk => by omega)
   have hl : aA fK (([] : List (Int × Unit)), ([] : List (Int × Unit)), (0 : Int), ()) = _ := hl; refine ⟨true, ?_, rfl⟩; simp only [cond_true, kV, List.length_nil, decide_true, Bool.not_true, cond_false, hl, gG, Option.bind_some]
 | cons x xs =>
   have e : decide (((List.length (x :: xs) : Nat) : Int) = (0 : Int)) = false := ai (by rw [List.length_cons]; omega); have e2 : decide (((List.length (x :: xs) : Nat) : Int) = ((List.length ([] : List (Int × Unit)) : Nat) : Int)) = false := e; refine ⟨false, ?_, ?_⟩
   · simp only [cond_true, kV, e2, Bool.not_false, Option.bind_some]
   · simp only [cond_true, e]
abbrev T9 : Type := Int × Int × (List (Int × Unit)) × aG × (List (Int × Unit)) × (List (ByteArray × Unit)) × Int × Int × Int × Int × Int × Int × Int × Int × Int × (List (Int × Unit)) × Unit
def Yt (m : T9) (lv : List (Int × Unit)) : Sum T9 (Bool × Unit) → Prop
 | .inl y => y = m ∧ u5 lv lv.length
 | .inr b => b.1 = false ∧ ¬ u5 lv lv.length
theorem IY (ea : Int) (eg : Int) (du : List (Int × Unit)) (cZ : List (Int × Int × Int × ByteArray × Unit)) (cH : List (Int × Unit)) (dj : List (ByteArray × Unit)) (eS : Int) (ff : Int) (fh : Int) (fi : Int) (cf : Int) (cg : Int) (ch : Int) (cj : Int) (ck : Int) (bP : List (Int × Unit))
   (h0 : (List.length du + wl Hq du) + (List.length cZ + wl pG cZ) + (List.length cH + wl Hq cH) + (List.length dj + wl Zg dj) + (List.length bP + wl Hq bP) ≤ 1048576) : ∃ o0, gh ea eg du cZ cH dj eS ff fh fi cf cg ch cj ck bP = some (o0, ()) ∧ iB ea eg du cZ cH dj eS ff fh fi cf cg ch cj ck bP = some (o0, ()) := by
 obtain ⟨b1, r1, r2, _⟩ := A7 eg du (by omega); obtain ⟨b2, c1, c2⟩ := sC ea du (by omega); obtain ⟨b3, i1, i2⟩ := D3 cZ (by omega); obtain ⟨b4, t1, t2⟩ := D5 cH dj (by omega) (by omega); obtain ⟨b5, s1, s2⟩ := KT dj (by omega); obtain ⟨n, a1, a2, _⟩ := D4 cZ (by omega); obtain ⟨b6, z1, z2⟩ := D6 cf cg ch cj ck bP; obtain ⟨b7, k1, k2, _⟩ := uO cf cg ch cj ck bP (by omega); obtain ⟨e, he, hq⟩ := dV (round := jn) (x := (ea, eg, du, cZ, cH, dj, eS, ff, fh, fi, cf, cg, ch, cj, ck, bP, cH, ((List.length cH : Nat) : Int), ((0 : Nat) : Int), ())) cH.length
   (fun k x => x = (ea, eg, du, cZ, cH, dj, eS, ff, fh, fi, cf, cg, ch, cj, ck, bP, cH, ((List.length cH : Nat) : Int), ((k : Nat) : Int), ()) ∧ u5 cH k)
   (Yt (ea, eg, du, cZ, cH, dj, eS, ff, fh, fi, cf, cg, ch, cj, ck, bP, ()) cH) (by
     rintro x ⟨rfl, g⟩
     exact ⟨.inl _, by simp only [jn, rb, az, cond_false], rfl, g⟩) (by
     rintro k x hk ⟨rfl, g⟩
     simp only [jn, rb, aw hk, ak, cond_true, au, List.getElem?_eq_getElem hk, Option.bind_some, wB, aC (show k < 4611686018427387904 by omega)]
     cases hlv : (decide (1 ≤ cH[k].1) && decide (cH[k].1 ≤ 2))
     · refine .inl ⟨.inr (false, ()), rfl, rfl, fun hn => ?_⟩; have := hn k hk hk; rw [hlv] at this
       cases this
     · refine .inr ⟨_, rfl, rfl, fun j hj Ik => ?_⟩
       by_cases e : j < k
       · exact g j hj e
       · have : j = k := by omega
         subst this; exact hlv) ⟨rfl, fun j _ h => by omega⟩
 have he : aA jn (ea, eg, du, cZ, cH, dj, eS, ff, fh, fi, cf, cg, ch, cj, ck, bP, cH, ((List.length cH : Nat) : Int), (0 : Int), ()) = some e := he; unfold gh iB; simp only [r1, r2, c1, c2, i1, i2, t1, s1, Option.bind_some, he]
 cases b1
 · cases b2
   · exact ⟨_, rfl, rfl⟩
   · exact ⟨_, rfl, rfl⟩
 cases b2
 · exact ⟨_, rfl, rfl⟩
 cases b3
 · exact ⟨_, rfl, rfl⟩
 simp only [Bool.not_true, cond_false]
 by_cases w1 : (20 : Int) < ((List.length dj : Nat) : Int)
 · have : b4 = false := by
     cases b4
     · rfl
     · have := (t2.1 rfl).1; omega
   subst this; rw [af w1]; exact ⟨_, rfl, rfl⟩
 rw [ai w1]
 cases b5
 · have : b4 = false := by
     cases b4
     · rfl
     · have := s2.2 (t2.1 rfl).2.2.2; cases this
   subst this; exact ⟨_, rfl, rfl⟩
 by_cases w2 : ((List.length cH : Nat) : Int) = ((List.length dj : Nat) : Int)
 case neg =>
   have : b4 = false := by
     cases b4
     · rfl
     · have := (t2.1 rfl).2.1; omega
   subst this; rw [ai w2]; exact ⟨_, rfl, rfl⟩
 rw [af w2]
 cases e with
 | inr e =>
   obtain ⟨q1, q2⟩ := hq; have : b4 = false := by
     cases b4
     · rfl
     · exact absurd (t2.1 rfl).2.2.1 q2
   subst this; refine ⟨false, rfl, ?_⟩; show some (e.1, ()) = _; rw [q1]
 | inl e =>
   obtain ⟨q1, q2⟩ := hq; subst q1; have : b4 = true := t2.2 ⟨by omega, by omega, q2, s2.1 rfl⟩; subst this; simp only [Bool.not_true, cond_false, gG, a1, a2, z1, z2, k1, k2, oQ, sB, Option.bind_some]
   cases (decide (0 ≤ eS) && decide (eS ≤ 1000000000))
   · exact ⟨_, rfl, rfl⟩
   cases (decide (0 ≤ ff) && decide (ff ≤ 60))
   · exact ⟨_, rfl, rfl⟩
   cases (decide (0 ≤ fh) && decide (fh ≤ ((n : Nat) : Int)))
   · exact ⟨_, rfl, rfl⟩
   cases (decide (0 ≤ fi) && decide (fi ≤ ((n : Nat) : Int)))
   · exact ⟨_, rfl, rfl⟩
   cases b6
   · exact ⟨_, rfl, rfl⟩
   · exact ⟨_, rfl, rfl⟩
end Go.TM
set_option linter.unusedSimpArgs false
set_option linter.unusedVariables false
namespace Go.TM
open Go
def lD (r : cu) : Prop := (1 ≤ r.1 ∧ r.1 ≤ 60) ∧ (1 ≤ r.2.1 ∧ r.2.1 ≤ 5) ∧ (1 ≤ r.2.2.1 ∧ r.2.2.1 ≤ 2) ∧ ByteArray.size r.2.2.2.1 ≤ 60
def iU (xs : aG) (n : Nat) : Prop := ∀ k (h : k < xs.length), k < n → lD xs[k] ∧ ∀ h0 : 0 < k, xs[k - 1].1 < xs[k].1
theorem IZ (a b c : Int) (s : ByteArray) : ∃ x, iw a b c s = some (x, ()) ∧ js a b c s = some (x, ()) ∧ (x = true ↔ lD (a, b, c, s, ())) := by
 have hi : ∀ {p q r : Prop} [Decidable p] [Decidable q], (decide p && decide q) = false → ¬ ((p ∧ q) ∧ r) := by
   intro p q r _ _ h ⟨h1, _⟩; rw [decide_eq_true h1.1, decide_eq_true h1.2] at h
   cases h
 unfold iw js lD; simp only [oQ, sB, qy, wB, Option.bind_some]
 cases h1 : (decide (1 ≤ a) && decide (a ≤ 60))
 · exact ⟨false, rfl, rfl, ⟨fun h => (by cases h), fun h => absurd h (hi h1)⟩⟩
 rw [Bool.and_eq_true, decide_eq_true_eq, decide_eq_true_eq] at h1
 cases h2 : (decide (1 ≤ b) && decide (b ≤ 5))
 · exact ⟨false, rfl, rfl, ⟨fun h => (by cases h), fun h => absurd h.2 (hi h2)⟩⟩
 rw [Bool.and_eq_true, decide_eq_true_eq, decide_eq_true_eq] at h2
 cases h3 : (decide (1 ≤ c) && decide (c ≤ 2))
 · exact ⟨false, rfl, rfl, ⟨fun h => (by cases h), fun h => absurd h.2.2 (hi h3)⟩⟩
 rw [Bool.and_eq_true, decide_eq_true_eq, decide_eq_true_eq] at h3; refine ⟨_, rfl, rfl, ?_⟩; rw [decide_eq_true_eq]; exact ⟨fun h => ⟨h1, h2, h3, by omega⟩, fun h => by have := h.2.2.2; omega⟩
theorem NK (xs : aG) (h : xs.length ≤ 1048576) : ∃ b, fT xs = some (b, ()) ∧ jC xs = some (b, ()) ∧ (b = true ↔ iU xs xs.length) := by
 obtain ⟨b, h1, h2⟩ := D3 xs h; refine ⟨b, h1, h2, ?_⟩; obtain ⟨e, he, hq⟩ := dV (round := dB) (x := (xs, ((0 : Nat) : Int), ())) xs.length (fun k x => x = (xs, ((k : Nat) : Int), ()) ∧ iU xs k) (fun e => (e = .inl () ∧ iU xs xs.length) ∨ (e = .inr (false, ()) ∧ ¬ iU xs xs.length)) (by
     rintro x ⟨rfl, g⟩
     exact ⟨.inl (), by simp only [dB, jH, az, cond_false], .inl ⟨rfl, g⟩⟩) (by
     rintro k x hk ⟨rfl, g⟩
     obtain ⟨b, r1, _, r3⟩ := IZ xs[k].1 xs[k].2.1 xs[k].2.2.1 xs[k].2.2.2.1; have r3 : b = true ↔ lD xs[k] := r3; simp only [dB, jH, aw hk, ak, cond_true, au, List.getElem?_eq_getElem hk, Option.bind_some, r1, aC (show k < 4611686018427387904 by omega)]; have more : lD xs[k] → (∀ h0 : 0 < k, xs[k - 1].1 < xs[k].1) → iU xs (k + 1) := fun q1 q2 j hj Ik => by
       by_cases e : j < k
       · exact g j hj e
       · have : j = k := by omega
         subst this; exact ⟨q1, q2⟩
     cases b
     · exact .inl ⟨.inr (false, ()), rfl, .inr ⟨rfl, fun hn => absurd (r3.2 (hn k hk hk).1) (by simp)⟩⟩
     · have q1 := r3.1 rfl
       by_cases h0 : 0 < k
       · have hp : k - 1 < xs.length := by omega
         rw [qz h0 (by omega)]; simp only [af (show (0 : Int) < ((k : Nat) : Int) by omega), Bool.not_true, cond_false, cond_true, ak, au, List.getElem?_eq_getElem hp, Option.bind_some]
         by_cases hs : xs[k].1 ≤ xs[k - 1].1
         · rw [af hs]; refine .inl ⟨.inr (false, ()), rfl, .inr ⟨rfl, fun hn => ?_⟩⟩; have := (hn k hk hk).2 h0; omega
         · rw [ai hs]; exact .inr ⟨_, rfl, rfl, more q1 (fun _ => by omega)⟩
       · have : k = 0 := by omega
         subst this; simp only [ai (show ¬ (0 : Int) < ((0 : Nat) : Int) by omega), Bool.not_true, cond_false]; exact .inr ⟨_, rfl, rfl, more q1 (fun h => absurd h (by omega))⟩) ⟨rfl, fun j _ h => by omega⟩
 have he : aA dB (xs, (0 : Int), ()) = some e := he; unfold fT at h1; rw [he] at h1; rcases hq with ⟨rfl, g⟩ | ⟨rfl, g⟩
 · injection h1 with h1; injection h1 with h1 _; exact ⟨fun _ => g, fun _ => h1.symm⟩
 · injection h1 with h1; injection h1 with h1 _; subst h1; exact ⟨fun h => (by cases h), fun h => absurd h g⟩
theorem Qy {α : Type} (f : α → Nat) (c : Nat) : (xs : List α) → (∀ x ∈ xs, f x ≤ c) → wl f xs ≤ c * xs.length
 | [], _ => Nat.zero_le _
 | x :: xs, h => by
   rw [RX, List.length_cons, Nat.mul_succ]; have := Qy f c xs (fun y hy => h y (List.mem_cons_of_mem _ hy)); have := h x List.mem_cons_self; omega
theorem F9 (xs : aG) (h : iU xs xs.length) : ∀ k (hk : k < xs.length), ((k + 1 : Nat) : Int) ≤ xs[k].1
 | 0, hk => by have := (h 0 hk hk).1.1.1; omega
 | k + 1, hk => by
   have h1 := F9 xs h k (by omega); have h2 := (h (k + 1) hk hk).2 (by omega); have h2 : xs[k].1 < xs[k + 1].1 := h2; omega
theorem bj (xs : aG) (h : iU xs xs.length) : xs.length ≤ 60 ∧ wl pG xs ≤ 3600 := by
 have h1 : xs.length ≤ 60 := by
   by_cases h0 : 0 < xs.length
   · have := F9 xs h (xs.length - 1) (by omega); have := (h (xs.length - 1) (by omega) (by omega)).1.1.2; omega
   · omega
 refine ⟨h1, Nat.le_trans (Qy pG 60 xs fun x hx => ?_) (by omega)⟩; obtain ⟨k, hk, rfl⟩ := List.mem_iff_getElem.1 hx; exact (h k hk hk).1.2.2.2
theorem BV (xs : List (ByteArray × Unit)) (h : jd xs xs.length) : wl Zg xs ≤ 60 * xs.length := by
 refine Qy Zg 60 xs fun x hx => ?_
 obtain ⟨k, hk, rfl⟩ := List.mem_iff_getElem.1 hx; exact h k hk hk
structure Ua (c0 c1 : Int) (c2 : List (Int × Unit)) (c3 : aG) (c4 : List (Int × Unit)) (c5 : List (ByteArray × Unit)) (c6 c7 c8 c9 : Int) (c15 : List (Int × Unit)) : Prop where
 ring : 1 ≤ c2.length ∧ c2.length ≤ 5
 items : iU c3 c3.length
 texts : c5.length ≤ 20 ∧ c4.length = c5.length
 Og : u5 c4 c4.length
 short : jd c5 c5.length
 round : 0 ≤ c6 ∧ c6 ≤ 1000000000
 seen : 0 ≤ c7 ∧ c7 ≤ 60
 Cg : ∃ n : Nat, gH c3 = some (((n : Nat) : Int), ()) ∧ jD c3 = some (((n : Nat) : Int), ()) ∧ LW c3 n ∧ (0 ≤ c8 ∧ c8 ≤ ((n : Nat) : Int)) ∧ 0 ≤ c9 ∧ c9 ≤ ((n : Nat) : Int)
 pP : c15.length ≤ 20
theorem yJ {p q : Prop} [Decidable p] [Decidable q] (h : (decide p && decide q) = true) : p ∧ q := by
 rw [Bool.and_eq_true, decide_eq_true_eq, decide_eq_true_eq] at h; exact h
theorem Ua.small {c0 c1 : Int} {c2 : List (Int × Unit)} {c3 : aG} {c4 : List (Int × Unit)} {c5 : List (ByteArray × Unit)} {c6 c7 c8 c9 : Int} {c15 : List (Int × Unit)} (h : Ua c0 c1 c2 c3 c4 c5 c6 c7 c8 c9 c15) :
   (List.length c2 + wl Hq c2) + (List.length c3 + wl pG c3) + (List.length c4 + wl Hq c4) + (List.length c5 + wl Zg c5) + (List.length c15 + wl Hq c15) ≤ 5000 := by
 have h1 := bj c3 h.items; have h2 := BV c5 h.short; have h3 := h.texts; have h4 := h.ring; have h5 := h.pP; rw [wV Hq (fun _ => rfl), wV Hq (fun _ => rfl), wV Hq (fun _ => rfl)]; omega
theorem BW (xs : aG) (h : xs.length ≤ 1048576) : eb xs = some (xs, ()) := by
 unfold eb; rw [aF (show (0 + xs.length) * 40 ≤ lim by unfold lim; omega)]; rfl
theorem G1 (xs : List (ByteArray × Unit)) (h : xs.length ≤ 1048576) : jc xs = some (xs, ()) := by
 unfold jc; rw [aF (show (0 + xs.length) * 16 ≤ lim by unfold lim; omega)]; rfl
theorem mm (ea : Int) (eg : Int) (du : List (Int × Unit)) (cZ : aG) (cH : List (Int × Unit)) (dj : List (ByteArray × Unit)) (eS : Int) (ff : Int) (fh : Int) (fi : Int) (cf : Int) (cg : Int) (ch : Int) (cj : Int) (ck : Int) (bP : List (Int × Unit))
   (h0 : (List.length du + wl Hq du) + (List.length cZ + wl pG cZ) + (List.length cH + wl Hq cH) + (List.length dj + wl Zg dj) + (List.length bP + wl Hq bP) ≤ 1048576) :
   iy ea eg du cZ cH dj eS ff fh fi cf cg ch cj ck bP = some (ea, eg, du, cZ, cH, dj, eS, ff, fh, fi, cf, cg, ch, cj, ck, bP, ()) ∧
   iT ea eg du cZ cH dj eS ff fh fi cf cg ch cj ck bP = some (ea, eg, du, cZ, cH, dj, eS, ff, fh, fi, cf, cg, ch, cj, ck, bP, ()) := by
 obtain ⟨t1, t2⟩ := fY cf cg ch cj ck bP (by omega)
 constructor
 · unfold iy; rw [aF (show (0 + du.length) * 8 ≤ lim by unfold lim; omega), aF (show (0 + cZ.length) * 40 ≤ lim by unfold lim; omega), aF (show (0 + cH.length) * 8 ≤ lim by unfold lim; omega), aF (show (0 + dj.length) * 16 ≤ lim by unfold lim; omega), t1]; rfl
 · unfold iT cU; rw [n5 du (by omega), BW cZ (by omega), n5 cH (by omega), G1 dj (by omega), t2]; rfl
end Go.TM
set_option linter.unusedSimpArgs false
set_option linter.unusedVariables false
namespace Go.TM
open Go
abbrev bV : Type := List (Int × Unit)
abbrev jZ : Type := Int × Int × Int × Int × Int × bV × Unit
abbrev bt : Type := Int × Int × bV × aG × bV × (List (ByteArray × Unit)) × Int × Int × Int × Int × Int × Int × Int × Int × Int × bV × Unit
def KU (xs : bV) (n : Nat) : Prop := ∀ k (h : k < xs.length), k < n → (1 ≤ xs[k].1 ∧ xs[k].1 ≤ 5) ∧ ∀ h0 : 0 < k, xs[k - 1].1 < xs[k].1
def lk (c : Int) (xs : bV) : Prop := (1 ≤ c ∧ c ≤ 9) ∧ (1 ≤ xs.length ∧ xs.length ≤ 5) ∧ KU xs xs.length
theorem Qz (c : Int) (xs : bV) (h : xs.length ≤ 1048576) : ∃ b, cE c xs = some (b, ()) ∧ ev c xs = some (b, ()) ∧ (b = true ↔ lk c xs) := by
 obtain ⟨b, h1, h2, _⟩ := A7 c xs h; refine ⟨b, h1, h2, ?_⟩; obtain ⟨e, he, hq⟩ := dV (round := dZ) (x := (c, xs, ((0 : Nat) : Int), ())) xs.length (fun k x => x = (c, xs, ((k : Nat) : Int), ()) ∧ KU xs k) (fun e => (e = .inl () ∧ KU xs xs.length) ∨ (e = .inr (false, ()) ∧ ¬ KU xs xs.length)) (by
     rintro x ⟨rfl, g⟩
     exact ⟨.inl (), by simp only [dZ, kE, az, cond_false], .inl ⟨rfl, g⟩⟩) (by
     rintro k x hk ⟨rfl, g⟩
     simp only [dZ, kE, aw hk, ak, cond_true, au, List.getElem?_eq_getElem hk, Option.bind_some, oQ, aC (show k < 4611686018427387904 by omega)]; have more : (1 ≤ xs[k].1 ∧ xs[k].1 ≤ 5) → (∀ h0 : 0 < k, xs[k - 1].1 < xs[k].1) → KU xs (k + 1) := fun q1 q2 j hj Ik => by
       by_cases e : j < k
       · exact g j hj e
       · have : j = k := by omega
         subst this; exact ⟨q1, q2⟩
     cases hb : (decide (1 ≤ xs[k].1) && decide (xs[k].1 ≤ 5))
     · exact .inl ⟨.inr (false, ()), rfl, .inr ⟨rfl, fun hn => by
         have := (hn k hk hk).1; rw [af this.1, af this.2] at hb
         cases hb⟩⟩
     · have q1 := yJ hb
       by_cases h0 : 0 < k
       · have hp : k - 1 < xs.length := by omega
         rw [qz h0 (by omega)]; simp only [af (show (0 : Int) < ((k : Nat) : Int) by omega), Bool.not_true, cond_false, cond_true, ak, au, List.getElem?_eq_getElem hp, Option.bind_some]
         by_cases hs : xs[k].1 ≤ xs[k - 1].1
         · rw [af hs]; refine .inl ⟨.inr (false, ()), rfl, .inr ⟨rfl, fun hn => ?_⟩⟩; have := (hn k hk hk).2 h0; omega
         · rw [ai hs]; exact .inr ⟨_, rfl, rfl, more q1 (fun _ => by omega)⟩
       · have : k = 0 := by omega
         subst this; simp only [ai (show ¬ (0 : Int) < ((0 : Nat) : Int) by omega), Bool.not_true, cond_false]; exact .inr ⟨_, rfl, rfl, more q1 (fun h => absurd h (by omega))⟩) ⟨rfl, fun j _ h => by omega⟩
 have he : aA dZ (c, xs, (0 : Int), ()) = some e := he; unfold cE at h1; simp only [oQ, Option.bind_some, he] at h1; unfold lk
 cases a1 : (decide (1 ≤ c) && decide (c ≤ 9))
 · rw [a1] at h1; injection h1 with h1; injection h1 with h1 _; subst h1; refine ⟨fun h => (by cases h), fun h => ?_⟩; rw [af h.1.1, af h.1.2] at a1
   cases a1
 cases a2 : (decide (1 ≤ ((List.length xs : Nat) : Int)) && decide (((List.length xs : Nat) : Int) ≤ 5))
 · rw [a1, a2] at h1; injection h1 with h1; injection h1 with h1 _; subst h1; refine ⟨fun h => (by cases h), fun h => ?_⟩; rw [af (show (1 : Int) ≤ ((List.length xs : Nat) : Int) by omega), af (show ((List.length xs : Nat) : Int) ≤ 5 by omega)] at a2
   cases a2
 rw [a1, a2] at h1; have a1 := yJ a1; have a2 := yJ a2; rcases hq with ⟨rfl, g⟩ | ⟨rfl, g⟩
 · injection h1 with h1; injection h1 with h1 _; exact ⟨fun _ => ⟨a1, by omega, g⟩, fun _ => h1.symm⟩
 · injection h1 with h1; injection h1 with h1 _; subst h1; exact ⟨fun h => (by cases h), fun h => absurd h.2.2 g⟩
noncomputable def D7 (c : Int) (xs : bV) : Bool := match cE c xs with | some x => x.1 | none => false
theorem lR (c : Int) (xs : bV) (h : xs.length ≤ 1048576) : cE c xs = some (D7 c xs, ()) ∧ ev c xs = some (D7 c xs, ()) ∧ (D7 c xs = true ↔ lk c xs) := by
 obtain ⟨b, h1, h2, h3⟩ := Qz c xs h; have : D7 c xs = b := by unfold D7; rw [h1]
 rw [this]; exact ⟨h1, h2, h3⟩
noncomputable def rz (xs : aG) : Bool := match fT xs with | some x => x.1 | none => false
theorem wC (xs : aG) (h : xs.length ≤ 1048576) : fT xs = some (rz xs, ()) ∧ jC xs = some (rz xs, ()) ∧ (rz xs = true ↔ iU xs xs.length) := by
 obtain ⟨b, h1, h2, h3⟩ := NK xs h; have : rz xs = b := by unfold rz; rw [h1]
 rw [this]; exact ⟨h1, h2, h3⟩
noncomputable def xC (r : cu) : Bool := match iw r.1 r.2.1 r.2.2.1 r.2.2.2.1 with | some x => x.1 | none => false
theorem zZ (r : cu) : iw r.1 r.2.1 r.2.2.1 r.2.2.2.1 = some (xC r, ()) ∧ js r.1 r.2.1 r.2.2.1 r.2.2.2.1 = some (xC r, ()) ∧ (xC r = true ↔ lD r) := by
 obtain ⟨b, h1, h2, h3⟩ := IZ r.1 r.2.1 r.2.2.1 r.2.2.2.1; have : xC r = b := by unfold xC; rw [h1]
 rw [this]; exact ⟨h1, h2, h3⟩
theorem Cq {p q : Prop} [Decidable p] [Decidable q] : (decide p && decide q) = true ↔ p ∧ q := by
 rw [Bool.and_eq_true, decide_eq_true_eq, decide_eq_true_eq]
theorem NL (c0 c1 c2 c3 c4 : Int) (xs : bV) : ∃ b, dR c0 c1 c2 c3 c4 xs = some (b, ()) ∧ cI c0 c1 c2 c3 c4 xs = some (b, ()) ∧ (b = true ↔ c0 = 0 ∧ c1 = 0 ∧ c2 = 0 ∧ c3 = 0 ∧ c4 = 0 ∧ xs = []) := by
 obtain ⟨b, h1, h2⟩ := D6 c0 c1 c2 c3 c4 xs; refine ⟨b, h1, h2, ?_⟩; unfold cI at h2; have hl : ((List.length xs : Nat) : Int) = 0 ↔ xs = [] := by rw [← List.length_eq_zero_iff]; omega
 by_cases e0 : c0 = 0
 case neg => simp [ai e0] at h2; subst h2; simp [e0]
 by_cases e1 : c1 = 0
 case neg => simp [af e0, ai e1] at h2; subst h2; simp [e1]
 by_cases e2 : c2 = 0
 case neg => simp [af e0, af e1, ai e2] at h2; subst h2; simp [e2]
 by_cases e3 : c3 = 0
 case neg => simp [af e0, af e1, af e2, ai e3] at h2; subst h2; simp [e3]
 by_cases e4 : c4 = 0
 case neg => simp [af e0, af e1, af e2, af e3, ai e4] at h2; subst h2; simp [e4]
 by_cases e5 : ((List.length xs : Nat) : Int) = 0
 · rw [af e0, af e1, af e2, af e3, af e4, af e5] at h2; injection h2 with h2; injection h2 with h2 _; exact ⟨fun _ => ⟨e0, e1, e2, e3, e4, hl.1 e5⟩, fun _ => h2.symm⟩
 · rw [af e0, af e1, af e2, af e3, af e4, ai e5] at h2; injection h2 with h2; injection h2 with h2 _; subst h2; exact ⟨fun h => (by cases h), fun h => absurd (hl.2 h.2.2.2.2.2) e5⟩
def Blank (t : jZ) : Prop := t.1 = 0 ∧ t.2.1 = 0 ∧ t.2.2.1 = 0 ∧ t.2.2.2.1 = 0 ∧ t.2.2.2.2.1 = 0 ∧ t.2.2.2.2.2.1 = []
noncomputable def n6 (t : jZ) : Bool := match dR t.1 t.2.1 t.2.2.1 t.2.2.2.1 t.2.2.2.2.1 t.2.2.2.2.2.1 with | some x => x.1 | none => false
theorem rB (t : jZ) : dR t.1 t.2.1 t.2.2.1 t.2.2.2.1 t.2.2.2.2.1 t.2.2.2.2.2.1 = some (n6 t, ()) ∧ cI t.1 t.2.1 t.2.2.1 t.2.2.2.1 t.2.2.2.2.1 t.2.2.2.2.2.1 = some (n6 t, ()) ∧ (n6 t = true ↔ Blank t) := by
 obtain ⟨b, h1, h2, h3⟩ := NL t.1 t.2.1 t.2.2.1 t.2.2.2.1 t.2.2.2.2.1 t.2.2.2.2.2.1; have : n6 t = b := by unfold n6; rw [h1]
 rw [this]; exact ⟨h1, h2, h3⟩
def z7 (t : jZ) : Prop := Ys t.1 t.2.1 t.2.2.1 t.2.2.2.1 t.2.2.2.2.1 t.2.2.2.2.2.1
noncomputable def EV (t : jZ) : Bool := match db t.1 t.2.1 t.2.2.1 t.2.2.2.1 t.2.2.2.2.1 t.2.2.2.2.2.1 with | some x => x.1 | none => false
theorem A8 (t : jZ) (h : t.2.2.2.2.2.1.length ≤ 1048576) : db t.1 t.2.1 t.2.2.1 t.2.2.2.1 t.2.2.2.2.1 t.2.2.2.2.2.1 = some (EV t, ()) ∧ fU t.1 t.2.1 t.2.2.1 t.2.2.2.1 t.2.2.2.2.1 t.2.2.2.2.2.1 = some (EV t, ()) ∧ (EV t = true ↔ z7 t) := by
 obtain ⟨b, h1, h2, h3⟩ := F6 t.1 t.2.1 t.2.2.1 t.2.2.2.1 t.2.2.2.2.1 t.2.2.2.2.2.1 h; have : EV t = b := by unfold EV; rw [h1]
 rw [this]; exact ⟨h1, h2, h3⟩
noncomputable def bE (xs : aG) : Nat := match gH xs with | some x => x.1.toNat | none => 0
theorem rC (xs : aG) (h : xs.length ≤ 1048576) : gH xs = some (((bE xs : Nat) : Int), ()) ∧ jD xs = some (((bE xs : Nat) : Int), ()) ∧ LW xs (bE xs) := by
 obtain ⟨n, h1, h2, h3⟩ := D4 xs h; have : bE xs = n := by unfold bE; rw [h1]; rfl
 rw [this]; exact ⟨h1, h2, h3⟩
structure pH (m : bt) : Prop where
 ring : lk m.2.1 m.2.2.1
 mem : (m.1, ()) ∈ m.2.2.1
 items : iU m.2.2.2.1 m.2.2.2.1.length
 texts : m.2.2.2.2.2.1.length ≤ 20 ∧ m.2.2.2.2.1.length = m.2.2.2.2.2.1.length
 Og : u5 m.2.2.2.2.1 m.2.2.2.2.1.length
 short : jd m.2.2.2.2.2.1 m.2.2.2.2.2.1.length
 round : 0 ≤ m.2.2.2.2.2.2.1 ∧ m.2.2.2.2.2.2.1 ≤ 1000000000
 seen : 0 ≤ m.2.2.2.2.2.2.2.1 ∧ m.2.2.2.2.2.2.2.1 ≤ 60
 line : 0 ≤ m.2.2.2.2.2.2.2.2.1 ∧ m.2.2.2.2.2.2.2.2.1 ≤ ((bE m.2.2.2.1 : Nat) : Int)
 heard : 0 ≤ m.2.2.2.2.2.2.2.2.2.1 ∧ m.2.2.2.2.2.2.2.2.2.1 ≤ ((bE m.2.2.2.1 : Nat) : Int)
 last : Blank (m.2.2.2.2.2.2.2.2.2.2.1, m.2.2.2.2.2.2.2.2.2.2.2.1, m.2.2.2.2.2.2.2.2.2.2.2.2.1, m.2.2.2.2.2.2.2.2.2.2.2.2.2.1, m.2.2.2.2.2.2.2.2.2.2.2.2.2.2.1, m.2.2.2.2.2.2.2.2.2.2.2.2.2.2.2.1, ()) ∨ z7 (m.2.2.2.2.2.2.2.2.2.2.1, m.2.2.2.2.2.2.2.2.2.2.2.1, m.2.2.2.2.2.2.2.2.2.2.2.2.1, m.2.2.2.2.2.2.2.2.2.2.2.2.2.1, m.2.2.2.2.2.2.2.2.2.2.2.2.2.2.1, m.2.2.2.2.2.2.2.2.2.2.2.2.2.2.2.1, ())
def Ch (m : bt) : Nat := (List.length m.2.2.1 + wl Hq m.2.2.1) + (List.length m.2.2.2.1 + wl pG m.2.2.2.1) + (List.length m.2.2.2.2.1 + wl Hq m.2.2.2.2.1) + (List.length m.2.2.2.2.2.1 + wl Zg m.2.2.2.2.2.1) + (List.length m.2.2.2.2.2.2.2.2.2.2.2.2.2.2.2.1 + wl Hq m.2.2.2.2.2.2.2.2.2.2.2.2.2.2.2.1)
noncomputable def wD (m : bt) : Bool := match gh m.1 m.2.1 m.2.2.1 m.2.2.2.1 m.2.2.2.2.1 m.2.2.2.2.2.1 m.2.2.2.2.2.2.1 m.2.2.2.2.2.2.2.1 m.2.2.2.2.2.2.2.2.1 m.2.2.2.2.2.2.2.2.2.1 m.2.2.2.2.2.2.2.2.2.2.1 m.2.2.2.2.2.2.2.2.2.2.2.1 m.2.2.2.2.2.2.2.2.2.2.2.2.1 m.2.2.2.2.2.2.2.2.2.2.2.2.2.1 m.2.2.2.2.2.2.2.2.2.2.2.2.2.2.1 m.2.2.2.2.2.2.2.2.2.2.2.2.2.2.2.1 with | some x => x.1 | none => false
theorem uQ (m : bt) (h0 : Ch m ≤ 1048576) : gh m.1 m.2.1 m.2.2.1 m.2.2.2.1 m.2.2.2.2.1 m.2.2.2.2.2.1 m.2.2.2.2.2.2.1 m.2.2.2.2.2.2.2.1 m.2.2.2.2.2.2.2.2.1 m.2.2.2.2.2.2.2.2.2.1 m.2.2.2.2.2.2.2.2.2.2.1 m.2.2.2.2.2.2.2.2.2.2.2.1 m.2.2.2.2.2.2.2.2.2.2.2.2.1 m.2.2.2.2.2.2.2.2.2.2.2.2.2.1 m.2.2.2.2.2.2.2.2.2.2.2.2.2.2.1 m.2.2.2.2.2.2.2.2.2.2.2.2.2.2.2.1 = some (wD m, ()) ∧ iB m.1 m.2.1 m.2.2.1 m.2.2.2.1 m.2.2.2.2.1 m.2.2.2.2.2.1 m.2.2.2.2.2.2.1 m.2.2.2.2.2.2.2.1 m.2.2.2.2.2.2.2.2.1 m.2.2.2.2.2.2.2.2.2.1 m.2.2.2.2.2.2.2.2.2.2.1 m.2.2.2.2.2.2.2.2.2.2.2.1 m.2.2.2.2.2.2.2.2.2.2.2.2.1 m.2.2.2.2.2.2.2.2.2.2.2.2.2.1 m.2.2.2.2.2.2.2.2.2.2.2.2.2.2.1 m.2.2.2.2.2.2.2.2.2.2.2.2.2.2.2.1 = some (wD m, ()) ∧ (wD m = true ↔ pH m) := by
 obtain ⟨b, k1, k2⟩ := IY m.1 m.2.1 m.2.2.1 m.2.2.2.1 m.2.2.2.2.1 m.2.2.2.2.2.1 m.2.2.2.2.2.2.1 m.2.2.2.2.2.2.2.1 m.2.2.2.2.2.2.2.2.1 m.2.2.2.2.2.2.2.2.2.1 m.2.2.2.2.2.2.2.2.2.2.1 m.2.2.2.2.2.2.2.2.2.2.2.1 m.2.2.2.2.2.2.2.2.2.2.2.2.1 m.2.2.2.2.2.2.2.2.2.2.2.2.2.1 m.2.2.2.2.2.2.2.2.2.2.2.2.2.2.1 m.2.2.2.2.2.2.2.2.2.2.2.2.2.2.2.1 h0; have hb : wD m = b := by unfold wD; rw [k1]
 rw [hb]; refine ⟨k1, k2, ?_⟩; unfold Ch at h0; obtain ⟨r1, _, r3⟩ := lR m.2.1 m.2.2.1 (by omega); have c1 := Cp m.2.2.1 m.1 (by omega); obtain ⟨i1, _, i3⟩ := wC m.2.2.2.1 (by omega); obtain ⟨b4, t1, t2⟩ := D5 m.2.2.2.2.1 m.2.2.2.2.2.1 (by omega) (by omega); obtain ⟨a1, a2, a3⟩ := rC m.2.2.2.1 (by omega); have z1 : dR m.2.2.2.2.2.2.2.2.2.2.1 m.2.2.2.2.2.2.2.2.2.2.2.1 m.2.2.2.2.2.2.2.2.2.2.2.2.1 m.2.2.2.2.2.2.2.2.2.2.2.2.2.1 m.2.2.2.2.2.2.2.2.2.2.2.2.2.2.1 m.2.2.2.2.2.2.2.2.2.2.2.2.2.2.2.1 = some (n6 (m.2.2.2.2.2.2.2.2.2.2.1, m.2.2.2.2.2.2.2.2.2.2.2.1, m.2.2.2.2.2.2.2.2.2.2.2.2.1, m.2.2.2.2.2.2.2.2.2.2.2.2.2.1, m.2.2.2.2.2.2.2.2.2.2.2.2.2.2.1, m.2.2.2.2.2.2.2.2.2.2.2.2.2.2.2.1, ()), ()) := (rB (m.2.2.2.2.2.2.2.2.2.2.1, m.2.2.2.2.2.2.2.2.2.2.2.1, m.2.2.2.2.2.2.2.2.2.2.2.2.1, m.2.2.2.2.2.2.2.2.2.2.2.2.2.1, m.2.2.2.2.2.2.2.2.2.2.2.2.2.2.1, m.2.2.2.2.2.2.2.2.2.2.2.2.2.2.2.1, ())).1; have z3 := (rB (m.2.2.2.2.2.2.2.2.2.2.1, m.2.2.2.2.2.2.2.2.2.2.2.1, m.2.2.2.2.2.2.2.2.2.2.2.2.1, m.2.2.2.2.2.2.2.2.2.2.2.2.2.1, m.2.2.2.2.2.2.2.2.2.2.2.2.2.2.1, m.2.2.2.2.2.2.2.2.2.2.2.2.2.2.2.1, ())).2.2; have w1 : db m.2.2.2.2.2.2.2.2.2.2.1 m.2.2.2.2.2.2.2.2.2.2.2.1 m.2.2.2.2.2.2.2.2.2.2.2.2.1 m.2.2.2.2.2.2.2.2.2.2.2.2.2.1 m.2.2.2.2.2.2.2.2.2.2.2.2.2.2.1 m.2.2.2.2.2.2.2.2.2.2.2.2.2.2.2.1 = some (EV (m.2.2.2.2.2.2.2.2.2.2.1, m.2.2.2.2.2.2.2.2.2.2.2.1, m.2.2.2.2.2.2.2.2.2.2.2.2.1, m.2.2.2.2.2.2.2.2.2.2.2.2.2.1, m.2.2.2.2.2.2.2.2.2.2.2.2.2.2.1, m.2.2.2.2.2.2.2.2.2.2.2.2.2.2.2.1, ()), ()) := (A8 (m.2.2.2.2.2.2.2.2.2.2.1, m.2.2.2.2.2.2.2.2.2.2.2.1, m.2.2.2.2.2.2.2.2.2.2.2.2.1, m.2.2.2.2.2.2.2.2.2.2.2.2.2.1, m.2.2.2.2.2.2.2.2.2.2.2.2.2.2.1, m.2.2.2.2.2.2.2.2.2.2.2.2.2.2.2.1, ()) (by show m.2.2.2.2.2.2.2.2.2.2.2.2.2.2.2.1.length ≤ _; omega)).1; have w3 := (A8 (m.2.2.2.2.2.2.2.2.2.2.1, m.2.2.2.2.2.2.2.2.2.2.2.1, m.2.2.2.2.2.2.2.2.2.2.2.2.1, m.2.2.2.2.2.2.2.2.2.2.2.2.2.1, m.2.2.2.2.2.2.2.2.2.2.2.2.2.2.1, m.2.2.2.2.2.2.2.2.2.2.2.2.2.2.2.1, ()) (by show m.2.2.2.2.2.2.2.2.2.2.2.2.2.2.2.1.length ≤ _; omega)).2.2; unfold gh at k1; simp only [r1, c1, i1, t1, a1, z1, w1, oQ, Option.bind_some] at k1
 cases e1 : D7 m.2.1 m.2.2.1
 · rw [e1] at k1; injection k1 with k1; injection k1 with k1 _; subst k1; exact ⟨fun h => (by cases h), fun h => by rw [r3.2 h.ring] at e1; cases e1⟩
 by_cases e2 : (m.1, ()) ∈ m.2.2.1
 case neg =>
   rw [e1, ai e2] at k1; injection k1 with k1; injection k1 with k1 _; subst k1; exact ⟨fun h => (by cases h), fun h => absurd h.mem e2⟩
 cases e3 : rz m.2.2.2.1
 · rw [e1, af e2, e3] at k1; injection k1 with k1; injection k1 with k1 _; subst k1; exact ⟨fun h => (by cases h), fun h => by rw [i3.2 h.items] at e3; cases e3⟩
 cases b4
 · rw [e1, af e2, e3] at k1; injection k1 with k1; injection k1 with k1 _; subst k1; exact ⟨fun h => (by cases h), fun h => by have := t2.2 ⟨h.texts.1, h.texts.2, h.Og, h.short⟩; cases this⟩
 rw [e1, af e2, e3] at k1; simp only [Bool.not_true, cond_false] at k1
 cases e5 : (decide ((0 : Int) ≤ m.2.2.2.2.2.2.1) && decide (m.2.2.2.2.2.2.1 ≤ 1000000000))
 · rw [e5] at k1; injection k1 with k1; injection k1 with k1 _; subst k1; exact ⟨fun h => (by cases h), fun h => by rw [Cq.2 h.round] at e5; cases e5⟩
 cases e6 : (decide ((0 : Int) ≤ m.2.2.2.2.2.2.2.1) && decide (m.2.2.2.2.2.2.2.1 ≤ 60))
 · rw [e5, e6] at k1; injection k1 with k1; injection k1 with k1 _; subst k1; exact ⟨fun h => (by cases h), fun h => by rw [Cq.2 h.seen] at e6; cases e6⟩
 cases e8 : (decide ((0 : Int) ≤ m.2.2.2.2.2.2.2.2.1) && decide (m.2.2.2.2.2.2.2.2.1 ≤ ((bE m.2.2.2.1 : Nat) : Int)))
 · rw [e5, e6, e8] at k1; injection k1 with k1; injection k1 with k1 _; subst k1; exact ⟨fun h => (by cases h), fun h => by rw [Cq.2 h.line] at e8; cases e8⟩
 cases e9 : (decide ((0 : Int) ≤ m.2.2.2.2.2.2.2.2.2.1) && decide (m.2.2.2.2.2.2.2.2.2.1 ≤ ((bE m.2.2.2.1 : Nat) : Int)))
 · rw [e5, e6, e8, e9] at k1; injection k1 with k1; injection k1 with k1 _; subst k1; exact ⟨fun h => (by cases h), fun h => by rw [Cq.2 h.heard] at e9; cases e9⟩
 rw [e5, e6, e8, e9] at k1; obtain ⟨t3, t4, t5, t6⟩ := t2.1 rfl; have mk : (Blank (m.2.2.2.2.2.2.2.2.2.2.1, m.2.2.2.2.2.2.2.2.2.2.2.1, m.2.2.2.2.2.2.2.2.2.2.2.2.1, m.2.2.2.2.2.2.2.2.2.2.2.2.2.1, m.2.2.2.2.2.2.2.2.2.2.2.2.2.2.1, m.2.2.2.2.2.2.2.2.2.2.2.2.2.2.2.1, ()) ∨ z7 (m.2.2.2.2.2.2.2.2.2.2.1, m.2.2.2.2.2.2.2.2.2.2.2.1, m.2.2.2.2.2.2.2.2.2.2.2.2.1, m.2.2.2.2.2.2.2.2.2.2.2.2.2.1, m.2.2.2.2.2.2.2.2.2.2.2.2.2.2.1, m.2.2.2.2.2.2.2.2.2.2.2.2.2.2.2.1, ())) → pH m := fun hl => ⟨r3.1 e1, e2, i3.1 e3, ⟨t3, t4⟩, t5, t6, yJ e5, yJ e6, yJ e8, yJ e9, hl⟩
 cases e10 : n6 (m.2.2.2.2.2.2.2.2.2.2.1, m.2.2.2.2.2.2.2.2.2.2.2.1, m.2.2.2.2.2.2.2.2.2.2.2.2.1, m.2.2.2.2.2.2.2.2.2.2.2.2.2.1, m.2.2.2.2.2.2.2.2.2.2.2.2.2.2.1, m.2.2.2.2.2.2.2.2.2.2.2.2.2.2.2.1, ())
 · rw [e10] at k1
   cases e11 : EV (m.2.2.2.2.2.2.2.2.2.2.1, m.2.2.2.2.2.2.2.2.2.2.2.1, m.2.2.2.2.2.2.2.2.2.2.2.2.1, m.2.2.2.2.2.2.2.2.2.2.2.2.2.1, m.2.2.2.2.2.2.2.2.2.2.2.2.2.2.1, m.2.2.2.2.2.2.2.2.2.2.2.2.2.2.2.1, ())
   · rw [e11] at k1; injection k1 with k1; injection k1 with k1 _; subst k1; refine ⟨fun h => (by cases h), fun h => ?_⟩; rcases h.last with q | q
     · rw [z3.2 q] at e10; cases e10
     · rw [w3.2 q] at e11; cases e11
   · rw [e11] at k1; injection k1 with k1; injection k1 with k1 _; subst k1; exact ⟨fun _ => mk (.inr (w3.1 e11)), fun _ => rfl⟩
 · rw [e10] at k1; injection k1 with k1; injection k1 with k1 _; subst k1; exact ⟨fun _ => mk (.inl (z3.1 e10)), fun _ => rfl⟩
theorem pH.small {m : bt} (h : pH m) : Ch m ≤ 5000 := by
 have h1 := bj _ h.items; have h2 := BV _ h.short; have h3 := h.texts; have h4 := h.ring.2.1; have h5 : m.2.2.2.2.2.2.2.2.2.2.2.2.2.2.2.1.length ≤ 20 := by
   rcases h.last with q | q
   · rw [show m.2.2.2.2.2.2.2.2.2.2.2.2.2.2.2.1 = [] from q.2.2.2.2.2]; exact Nat.zero_le _
   · exact q.2.2.2.2.2.1
 unfold Ch; rw [wV Hq (fun _ => rfl), wV Hq (fun _ => rfl), wV Hq (fun _ => rfl)]; omega
end Go.TM
set_option linter.unusedSimpArgs false
set_option linter.unusedVariables false
namespace Go.TM
open Go
def lu : aG → cu → aG
 | [], m => [m]
 | r :: xs, m => if r.1 < m.1 then r :: lu xs m else if r.1 = m.1 then r :: xs else m :: r :: xs
def NM (xs : aG) : Prop := xs.Pairwise fun a b => a.1 < b.1
def lx (xs : aG) (m : cu) : Nat := (xs.takeWhile fun r => decide (r.1 < m.1)).length
theorem SJ (xs : aG) (m : cu) : lx xs m ≤ xs.length := (List.takeWhile_sublist _).length_le
theorem A9 (r : cu) (xs : aG) (m : cu) : lx (r :: xs) m = if r.1 < m.1 then lx xs m + 1 else 0 := by
 unfold lx; rw [List.takeWhile_cons]
 by_cases h : r.1 < m.1
 · simp [h]
 · simp [h]
theorem I0 (m : cu) : (xs : aG) → lu xs m = if h : lx xs m < xs.length then (if xs[lx xs m].1 = m.1 then xs else xs.take (lx xs m) ++ ([m] ++ xs.drop (lx xs m))) else xs.take (lx xs m) ++ ([m] ++ xs.drop (lx xs m))
 | [] => rfl
 | r :: xs => by
   have ih := I0 m xs; unfold lu
   by_cases h : r.1 < m.1
   · rw [if_pos h, ih]; have hp : lx (r :: xs) m = lx xs m + 1 := by rw [A9, if_pos h]
     by_cases h2 : lx xs m < xs.length
     · have h3 : lx (r :: xs) m < (r :: xs).length := by rw [hp, List.length_cons]; omega
       rw [dif_pos h2, dif_pos h3]; have e : (r :: xs)[lx (r :: xs) m] = xs[lx xs m] := by simp [hp]
       rw [e]
       by_cases h4 : xs[lx xs m].1 = m.1
       · rw [if_pos h4, if_pos h4]
       · rw [if_neg h4, if_neg h4, hp]; rfl
     · have h3 : ¬ lx (r :: xs) m < (r :: xs).length := by rw [hp, List.length_cons]; omega
       rw [dif_neg h2, dif_neg h3, hp]; rfl
   · rw [if_neg h]; have hp : lx (r :: xs) m = 0 := by rw [A9, if_neg h]
     have h3 : lx (r :: xs) m < (r :: xs).length := by rw [hp, List.length_cons]; omega
     rw [dif_pos h3]; have e : (r :: xs)[lx (r :: xs) m] = r := by simp [hp]
     rw [e, hp]; rfl
theorem QA {xs : aG} (h : iU xs xs.length) : NM xs := by
 have key : ∀ (d i : Nat) (hi : i + d + 1 < xs.length), xs[i].1 < xs[i + d + 1].1 := by
   intro d
   induction d with
   | zero => intro i hi; exact (h (i + 1) hi hi).2 (by omega)
   | succ d ih =>
     intro i hi; have h1 := ih i (by omega); have h2 := (h (i + (d + 1) + 1) hi hi).2 (by omega); have e : i + (d + 1) + 1 - 1 = i + d + 1 := by omega
     simp only [e] at h2; omega
 unfold NM; rw [List.pairwise_iff_getElem]; intro i j hi hj Q7; have := key (j - i - 1) i (by omega); simpa [show i + (j - i - 1) + 1 = j by omega] using this
theorem QB {xs : aG} (h : NM xs) (hi : ∀ r ∈ xs, lD r) : iU xs xs.length := by
 intro k hk _; refine ⟨hi _ (List.getElem_mem hk), fun h0 => ?_⟩; unfold NM at h; rw [List.pairwise_iff_getElem] at h; exact h (k - 1) k (by omega) hk (by omega)
theorem Ba {xs : aG} (h : iU xs xs.length) : ∀ r ∈ xs, lD r := by
 intro r hr; obtain ⟨k, hk, rfl⟩ := List.mem_iff_getElem.1 hr; exact (h k hk hk).1
theorem s9 {r m : cu} : {xs : aG} → r ∈ lu xs m → r = m ∨ r ∈ xs
 | [], h => by
   unfold lu at h; exact .inl (List.mem_singleton.1 h)
 | x :: xs, h => by
   unfold lu at h
   split at h
   · rcases List.mem_cons.1 h with rfl | h
     · exact .inr List.mem_cons_self
     · exact (s9 h).imp id (List.mem_cons_of_mem _)
   · split at h
     · exact .inr h
     · rcases List.mem_cons.1 h with rfl | h
       · exact .inl rfl
       · exact .inr h
theorem I1 {m : cu} : {xs : aG} → NM xs → NM (lu xs m)
 | [], _ => by unfold lu NM; simp
 | x :: xs, h => by
   unfold NM at h; rw [List.pairwise_cons] at h; unfold lu
   split
   · rename_i bN; unfold NM; rw [List.pairwise_cons]; refine ⟨fun y hy => ?_, I1 h.2⟩; rcases s9 hy with rfl | hy
     · exact bN
     · exact h.1 y hy
   · split
     · unfold NM; rw [List.pairwise_cons]; exact h
     · unfold NM; rw [List.pairwise_cons, List.pairwise_cons]; refine ⟨fun y hy => ?_, h⟩; rcases List.mem_cons.1 hy with rfl | hy
       · omega
       · have := h.1 y hy; omega
theorem yK {xs : aG} {m : cu} (h : iU xs xs.length) (hm : lD m) : iU (lu xs m) (lu xs m).length :=
 QB (I1 (QA h)) fun r hr => (s9 hr).elim (fun e => e ▸ hm) (Ba h r)
def mn (xs : aG) (m : cu) : aG := xs.filter fun r => decide (r.1 < m.1)
def rD (xs : aG) (m : cu) : aG := xs.filter fun r => decide (m.1 < r.1)
def z8 (xs : aG) (s : Int) : Bool := xs.any fun r => decide (r.1 = s)
theorem BX (m : cu) : (xs : aG) → NM xs → lu xs m = bif z8 xs m.1 then xs else mn xs m ++ [m] ++ rD xs m
 | [], _ => rfl
 | r :: xs, h => by
   unfold NM at h; rw [List.pairwise_cons] at h; have ih := BX m xs h.2; unfold lu
   by_cases h1 : r.1 < m.1
   · rw [if_pos h1, ih]; have e1 : z8 (r :: xs) m.1 = z8 xs m.1 := by unfold z8; rw [List.any_cons, ai (show ¬ r.1 = m.1 by omega)]; rfl
     have e2 : mn (r :: xs) m = r :: mn xs m := by unfold mn; rw [List.filter_cons, if_pos (af h1)]
     have e3 : rD (r :: xs) m = rD xs m := by unfold rD; rw [List.filter_cons, if_neg (by rw [decide_eq_true_eq]; omega)]
     rw [e1, e2, e3]
     cases z8 xs m.1 <;> rfl
   · rw [if_neg h1]
     by_cases h2 : r.1 = m.1
     · have e1 : z8 (r :: xs) m.1 = true := by unfold z8; rw [List.any_cons, af h2]; rfl
       rw [if_pos h2, e1]; rfl
     · rw [if_neg h2]; have qK : ∀ y ∈ r :: xs, m.1 < y.1 := by
         intro y hy; rcases List.mem_cons.1 hy with rfl | hy
         · omega
         · have := h.1 y hy; omega
       have e1 : z8 (r :: xs) m.1 = false := by
         unfold z8; rw [List.any_eq_false]; intro y hy; have := qK y hy; rw [decide_eq_true_eq]; omega
       have e2 : mn (r :: xs) m = [] := by
         unfold mn; rw [List.filter_eq_nil_iff]; intro y hy; have := qK y hy; rw [decide_eq_true_eq]; omega
       have e3 : rD (r :: xs) m = r :: xs := by
         unfold rD; rw [List.filter_eq_self]; intro y hy; exact af (qK y hy)
       rw [e1, e2, e3]; rfl
theorem Aa (xs : aG) (m : cu) (h : xs.length ≤ 1048576) (hi : rz xs = true) (hm : xC m = true) : iz xs m.1 m.2.1 m.2.2.1 m.2.2.2.1 = some (lu xs m, ()) := by
 obtain ⟨k1, _, k3⟩ := wC xs h; obtain ⟨q1, _, _⟩ := zZ m; have hs := QA (k3.1 hi); have hlen : ∀ k, (mn (xs.take k) m).length ≤ k := fun k => Nat.le_trans (List.length_filter_le _ _) (by rw [List.length_take]; omega)
 have ID : ∀ k, (rD (xs.take k) m).length ≤ k := fun k => Nat.le_trans (List.length_filter_le _ _) (by rw [List.length_take]; omega)
 have l1 := sV (round := gZ) (n := xs.length) (fun k => (xs, m.1, m.2.1, m.2.2.1, m.2.2.2.1, xs, mn (xs.take k) m, ((k : Nat) : Int), ())) (fun k => some (bif z8 (xs.drop k) m.1 then .inr (xs, ()) else .inl (xs, m.1, m.2.1, m.2.2.1, m.2.2.2.1, mn xs m, ())))
   ⟨.inl (xs, m.1, m.2.1, m.2.2.1, m.2.2.2.1, mn xs m, ()), by simp only [gZ, pb, az, cond_false, List.take_length], by rw [List.drop_length]; rfl⟩ (fun k hk => by
     have e : z8 (xs.drop k) m.1 = (decide (xs[k].1 = m.1) || z8 (xs.drop (k + 1)) m.1) := by unfold z8; rw [List.drop_eq_getElem_cons hk, List.any_cons]
     have e2 : mn (xs.take (k + 1)) m = mn (xs.take k) m ++ (if decide (xs[k].1 < m.1) = true then [xs[k]] else []) := by
       unfold mn; rw [List.take_succ_eq_append_getElem hk, List.filter_append, List.filter_cons]
       split <;> rfl
     have hb : Nat.ble (((mn (xs.take k) m).length + 1) * 40) lim = true := aF (by have := hlen k; unfold lim; omega); simp only [gZ, pb, aw hk, ak, cond_true, au, List.getElem?_eq_getElem hk, Option.bind_some, aC (show k < 4611686018427387904 by omega), hb, e, e2]
     by_cases h1 : xs[k].1 = m.1
     · rw [af h1]; exact .inl ⟨_, rfl, rfl⟩
     · rw [ai h1]; refine .inr ⟨?_, rfl⟩
       by_cases h2 : xs[k].1 < m.1
       · rw [af h2]; rfl
       · rw [ai h2, if_neg (by decide), List.append_nil]; rfl) 0 (Nat.zero_le _)
 have l1 : aA gZ (xs, m.1, m.2.1, m.2.2.1, m.2.2.2.1, xs, [], (0 : Int), ()) = _ := l1; rw [List.drop_zero] at l1; have l2 := bd (round := fC) (e := .inl (mn xs m ++ [m] ++ rD xs m, ())) xs.length (fun k => (xs, m.1, m.2.1, m.2.2.1, m.2.2.2.1, mn xs m ++ [m] ++ rD (xs.take k) m, ((k : Nat) : Int), ())) (by
   simp only [fC, pc, az, cond_false, List.take_length]) (fun k hk => by
     have e2 : rD (xs.take (k + 1)) m = rD (xs.take k) m ++ (if decide (m.1 < xs[k].1) = true then [xs[k]] else []) := by
       unfold rD; rw [List.take_succ_eq_append_getElem hk, List.filter_append, List.filter_cons]
       split <;> rfl
     have hb : Nat.ble (((mn xs m ++ [m] ++ rD (xs.take k) m).length + 1) * 40) lim = true := aF (by
       have h1 := hlen xs.length; rw [List.take_length] at h1; have h2 := ID k; simp only [List.length_append, List.length_cons, List.length_nil]; unfold lim; omega)
     simp only [fC, pc, aw hk, ak, cond_true, au, List.getElem?_eq_getElem hk, Option.bind_some, aC (show k < 4611686018427387904 by omega), hb, e2]
     by_cases h2 : m.1 < xs[k].1
     · rw [af h2, if_pos rfl, ← List.append_assoc]; rfl
     · rw [ai h2, if_neg (by decide), List.append_nil]; rfl)
 have l2 : aA fC (xs, m.1, m.2.1, m.2.2.1, m.2.2.2.1, mn xs m ++ [m] ++ rD (xs.take 0) m, (0 : Int), ()) = _ := l2; rw [show rD (xs.take 0) m = [] from rfl, List.append_nil] at l2; have MI : Nat.ble ((0 + xs.length) * 40) lim = true := aF (by unfold lim; omega); have Fi : Nat.ble (((mn xs m).length + 1) * 40) lim = true := aF (by
   have h1 := hlen xs.length; rw [List.take_length] at h1; unfold lim; omega)
 rw [BX m xs hs]; unfold iz; simp only [k1, q1, hi, hm, MI, cond_true, Bool.not_true, cond_false, Option.bind_some, List.nil_append, l1]
 cases z8 xs m.1
 · have l3 : aA fC (xs, m.1, m.2.1, m.2.2.1, m.2.2.2.1, mn xs m ++ [(m.1, m.2.1, m.2.2.1, m.2.2.2.1, ())], (0 : Int), ()) = _ := l2; simp only [cond_false, bz, Option.bind_some, Fi, cond_true, l3]
 · rfl
theorem Ab (xs : aG) (m : cu) (h : xs.length ≤ 1048576) : m7 xs m.1 m.2.1 m.2.2.1 m.2.2.2.1 = some (lu xs m, ()) := by
 have l1 := sV (round := hZ) (n := xs.length) (fun k => (xs, m.1, m.2.1, m.2.2.1, m.2.2.2.1, ((k : Nat) : Int), ())) (fun k => some (.inl (xs, m.1, m.2.1, m.2.2.1, m.2.2.2.1, ((k + lx (xs.drop k) m : Nat) : Int), ())))
   ⟨.inl (xs, m.1, m.2.1, m.2.2.1, m.2.2.2.1, ((xs.length : Nat) : Int), ()), by simp only [hZ, pt, az, cond_false], by rw [List.drop_length]; rfl⟩ (fun k hk => by
     have e : lx (xs.drop k) m = if xs[k].1 < m.1 then lx (xs.drop (k + 1)) m + 1 else 0 := by rw [List.drop_eq_getElem_cons hk, A9]
     simp only [hZ, pt, aw hk, ak, cond_true, au, eZ hk, List.getElem?_eq_getElem hk, Option.bind_some, aC (show k < 4611686018427387904 by omega), e]
     by_cases h1 : xs[k].1 < m.1
     · rw [af h1, if_pos h1]; exact .inr ⟨rfl, by rw [show k + (lx (xs.drop (k + 1)) m + 1) = k + 1 + lx (xs.drop (k + 1)) m by omega]⟩
     · rw [ai h1, if_neg h1]; exact .inl ⟨_, rfl, rfl⟩) 0 (Nat.zero_le _)
 have l1 : aA hZ (xs, m.1, m.2.1, m.2.2.1, m.2.2.2.1, (0 : Int), ()) = _ := l1; rw [List.drop_zero, Nat.zero_add] at l1; have hp := SJ xs m; have ajp : IT xs ((lx xs m : Nat) : Int) [(m.1, m.2.1, m.2.2.1, m.2.2.2.1, ())] = some (xs.take (lx xs m) ++ ([m] ++ xs.drop (lx xs m)), ()) := by
   unfold IT; rw [ak, af (show ((lx xs m : Nat) : Int) ≤ ((xs.length : Nat) : Int) by omega), aF (show (xs.length + 1) * 40 ≤ lim by unfold lim; omega)]; rfl
 rw [I0]; unfold m7; simp only [l1, bz, ajp, Option.bind_some]
 by_cases h1 : lx xs m < xs.length
 · simp only [dif_pos h1, aw h1, ak, au, eZ h1, cond_true, List.getElem?_eq_getElem h1, Option.bind_some]
   by_cases h2 : xs[lx xs m].1 = m.1
   · rw [af h2, if_pos h2]; rfl
   · rw [ai h2, if_neg h2]; rfl
 · rw [dif_neg h1, ai (show ¬ ((lx xs m : Nat) : Int) < ((xs.length : Nat) : Int) by omega)]; rfl
noncomputable def NN (xs : aG) (m : cu) : aG := bif rz xs && xC m then lu xs m else xs
theorem G2 (xs : aG) (m : cu) (h : xs.length ≤ 1048576) : iz xs m.1 m.2.1 m.2.2.1 m.2.2.2.1 = some (NN xs m, ()) ∧ qf xs m.1 m.2.1 m.2.2.1 m.2.2.2.1 = some (NN xs m, ()) := by
 obtain ⟨k1, k2, _⟩ := wC xs h; obtain ⟨q1, q2, _⟩ := zZ m; have MI : Nat.ble ((0 + xs.length) * 40) lim = true := aF (by unfold lim; omega); unfold NN
 constructor
 · cases hi : rz xs
   · unfold iz; simp only [k1, hi, MI, cond_true, Option.bind_some]; rfl
   · cases hm : xC m
     · unfold iz; simp only [k1, q1, hi, hm, MI, cond_true, Option.bind_some]; rfl
     · exact Aa xs m h hi hm
 · unfold qf; simp only [k2, q2, BW xs h, Option.bind_some, Ab xs m h]
   cases rz xs <;> cases xC m <;> rfl
def qA (m : bt) (xs : aG) : bt := (m.1, m.2.1, m.2.2.1, xs, m.2.2.2.2)
noncomputable def pI (m : bt) (x : cu) : bt := bif wD m then qA m (NN m.2.2.2.1 x) else m
theorem D8 (m : bt) (x : cu) (h : Ch m ≤ 1048576) : ua m.1 m.2.1 m.2.2.1 m.2.2.2.1 m.2.2.2.2.1 m.2.2.2.2.2.1 m.2.2.2.2.2.2.1 m.2.2.2.2.2.2.2.1 m.2.2.2.2.2.2.2.2.1 m.2.2.2.2.2.2.2.2.2.1 m.2.2.2.2.2.2.2.2.2.2.1 m.2.2.2.2.2.2.2.2.2.2.2.1 m.2.2.2.2.2.2.2.2.2.2.2.2.1 m.2.2.2.2.2.2.2.2.2.2.2.2.2.1 m.2.2.2.2.2.2.2.2.2.2.2.2.2.2.1 m.2.2.2.2.2.2.2.2.2.2.2.2.2.2.2.1 x.1 x.2.1 x.2.2.1 x.2.2.2.1 = some (pI m x) ∧ uD m.1 m.2.1 m.2.2.1 m.2.2.2.1 m.2.2.2.2.1 m.2.2.2.2.2.1 m.2.2.2.2.2.2.1 m.2.2.2.2.2.2.2.1 m.2.2.2.2.2.2.2.2.1 m.2.2.2.2.2.2.2.2.2.1 m.2.2.2.2.2.2.2.2.2.2.1 m.2.2.2.2.2.2.2.2.2.2.2.1 m.2.2.2.2.2.2.2.2.2.2.2.2.1 m.2.2.2.2.2.2.2.2.2.2.2.2.2.1 m.2.2.2.2.2.2.2.2.2.2.2.2.2.2.1 m.2.2.2.2.2.2.2.2.2.2.2.2.2.2.2.1 x.1 x.2.1 x.2.2.1 x.2.2.2.1 = some (pI m x) := by
 obtain ⟨k1, k2, _⟩ := uQ m h; obtain ⟨p1, p2⟩ := mm m.1 m.2.1 m.2.2.1 m.2.2.2.1 m.2.2.2.2.1 m.2.2.2.2.2.1 m.2.2.2.2.2.2.1 m.2.2.2.2.2.2.2.1 m.2.2.2.2.2.2.2.2.1 m.2.2.2.2.2.2.2.2.2.1 m.2.2.2.2.2.2.2.2.2.2.1 m.2.2.2.2.2.2.2.2.2.2.2.1 m.2.2.2.2.2.2.2.2.2.2.2.2.1 m.2.2.2.2.2.2.2.2.2.2.2.2.2.1 m.2.2.2.2.2.2.2.2.2.2.2.2.2.2.1 m.2.2.2.2.2.2.2.2.2.2.2.2.2.2.2.1 h; have hl : m.2.2.2.1.length ≤ 1048576 := by unfold Ch at h; omega
 obtain ⟨q1, q2⟩ := G2 m.2.2.2.1 x hl; unfold pI
 constructor
 · unfold ua; simp only [p1, k1, q1, Option.bind_some]
   cases wD m <;> rfl
 · unfold uD; simp only [p2, k2, q2, Option.bind_some]
   cases wD m <;> rfl
end Go.TM
set_option linter.unusedSimpArgs false
set_option linter.unusedVariables false
namespace Go.TM
open Go
def qi (xs : aG) (s : Int) : cu := ((ns (dm xs s)).1, (ns (dm xs s)).2.1, (ns (dm xs s)).2.2.1, (ns (dm xs s)).2.2.2.1, ())
def ez (xs : aG) (h : Int) (k : Nat) : aG := (List.range k).map fun j => qi xs (h + ((j + 1 : Nat) : Int))
theorem n7 (xs : aG) (h : Int) (k : Nat) : (ez xs h k).length = k := by simp [ez]
theorem sk (xs : aG) (h : Int) (k : Nat) : ez xs h (k + 1) = ez xs h k ++ [qi xs (h + ((k + 1 : Nat) : Int))] := by
 unfold ez; rw [List.range_succ, List.map_append]; rfl
def wE (xs : aG) (line s : Int) : Prop := (qi xs s).2.2.1 = 2 ∧ line < (qi xs s).1
theorem QC (m : bt) (h0 : Ch m ≤ 1048576) : ∃ (k : Nat) (v : Int), sZ m.1 m.2.1 m.2.2.1 m.2.2.2.1 m.2.2.2.2.1 m.2.2.2.2.2.1 m.2.2.2.2.2.2.1 m.2.2.2.2.2.2.2.1 m.2.2.2.2.2.2.2.2.1 m.2.2.2.2.2.2.2.2.2.1 m.2.2.2.2.2.2.2.2.2.2.1 m.2.2.2.2.2.2.2.2.2.2.2.1 m.2.2.2.2.2.2.2.2.2.2.2.2.1 m.2.2.2.2.2.2.2.2.2.2.2.2.2.1 m.2.2.2.2.2.2.2.2.2.2.2.2.2.2.1 m.2.2.2.2.2.2.2.2.2.2.2.2.2.2.2.1 = some (m.1, m.2.1, m.2.2.1, m.2.2.2.1, m.2.2.2.2.1, m.2.2.2.2.2.1, m.2.2.2.2.2.2.1, m.2.2.2.2.2.2.2.1, m.2.2.2.2.2.2.2.2.1, v, m.2.2.2.2.2.2.2.2.2.2.1, m.2.2.2.2.2.2.2.2.2.2.2.1, m.2.2.2.2.2.2.2.2.2.2.2.2.1, m.2.2.2.2.2.2.2.2.2.2.2.2.2.1, m.2.2.2.2.2.2.2.2.2.2.2.2.2.2.1, m.2.2.2.2.2.2.2.2.2.2.2.2.2.2.2.1, ez m.2.2.2.1 m.2.2.2.2.2.2.2.2.2.1 k, ()) ∧ s7 m.1 m.2.1 m.2.2.1 m.2.2.2.1 m.2.2.2.2.1 m.2.2.2.2.2.1 m.2.2.2.2.2.2.1 m.2.2.2.2.2.2.2.1 m.2.2.2.2.2.2.2.2.1 m.2.2.2.2.2.2.2.2.2.1 m.2.2.2.2.2.2.2.2.2.2.1 m.2.2.2.2.2.2.2.2.2.2.2.1 m.2.2.2.2.2.2.2.2.2.2.2.2.1 m.2.2.2.2.2.2.2.2.2.2.2.2.2.1 m.2.2.2.2.2.2.2.2.2.2.2.2.2.2.1 m.2.2.2.2.2.2.2.2.2.2.2.2.2.2.2.1 = some (m.1, m.2.1, m.2.2.1, m.2.2.2.1, m.2.2.2.2.1, m.2.2.2.2.2.1, m.2.2.2.2.2.2.1, m.2.2.2.2.2.2.2.1, m.2.2.2.2.2.2.2.2.1, v, m.2.2.2.2.2.2.2.2.2.2.1, m.2.2.2.2.2.2.2.2.2.2.2.1, m.2.2.2.2.2.2.2.2.2.2.2.2.1, m.2.2.2.2.2.2.2.2.2.2.2.2.2.1, m.2.2.2.2.2.2.2.2.2.2.2.2.2.2.1, m.2.2.2.2.2.2.2.2.2.2.2.2.2.2.2.1, ez m.2.2.2.1 m.2.2.2.2.2.2.2.2.2.1 k, ()) ∧ v = m.2.2.2.2.2.2.2.2.2.1 + ((k : Nat) : Int) ∧
   (wD m = false → k = 0) ∧ (wD m = true → v ≤ ((bE m.2.2.2.1 : Nat) : Int) ∧ (∀ j, j < k → ¬ wE m.2.2.2.1 m.2.2.2.2.2.2.2.2.1 (m.2.2.2.2.2.2.2.2.2.1 + ((j + 1 : Nat) : Int))) ∧ (v < ((bE m.2.2.2.1 : Nat) : Int) → wE m.2.2.2.1 m.2.2.2.2.2.2.2.2.1 (m.2.2.2.2.2.2.2.2.2.1 + ((k + 1 : Nat) : Int)))) := by
 obtain ⟨k1, k2, k3⟩ := uQ m h0; obtain ⟨p1, p2⟩ := mm m.1 m.2.1 m.2.2.1 m.2.2.2.1 m.2.2.2.2.1 m.2.2.2.2.2.1 m.2.2.2.2.2.2.1 m.2.2.2.2.2.2.2.1 m.2.2.2.2.2.2.2.2.1 m.2.2.2.2.2.2.2.2.2.1 m.2.2.2.2.2.2.2.2.2.2.1 m.2.2.2.2.2.2.2.2.2.2.2.1 m.2.2.2.2.2.2.2.2.2.2.2.2.1 m.2.2.2.2.2.2.2.2.2.2.2.2.2.1 m.2.2.2.2.2.2.2.2.2.2.2.2.2.2.1 m.2.2.2.2.2.2.2.2.2.2.2.2.2.2.2.1 h0; unfold sZ s7; simp only [k1, k2, p1, p2, Option.bind_some]
 cases hb : wD m
 · exact ⟨0, m.2.2.2.2.2.2.2.2.2.1, rfl, rfl, by omega, (fun _ => rfl), (fun h => by cases h)⟩
 have hm := k3.1 hb; have hit := bj m.2.2.2.1 hm.items; have hl : m.2.2.2.1.length ≤ 1048576 := by omega
 obtain ⟨a1, a2, a3⟩ := rC m.2.2.2.1 hl; have hh := hm.heard; generalize hn : bE m.2.2.2.1 = n at a1 a2 a3 hh; have anm : n ≤ 60 := Nat.le_trans a3.1 hit.1; obtain ⟨e, f, g1, g2, k, v, g3, g4, g5, g6, g7, g8⟩ : ∃ e f, aA mS (m.1, m.2.1, m.2.2.1, m.2.2.2.1, m.2.2.2.2.1, m.2.2.2.2.2.1, m.2.2.2.2.2.2.1, m.2.2.2.2.2.2.2.1, m.2.2.2.2.2.2.2.2.1, m.2.2.2.2.2.2.2.2.2.1, m.2.2.2.2.2.2.2.2.2.2.1, m.2.2.2.2.2.2.2.2.2.2.2.1, m.2.2.2.2.2.2.2.2.2.2.2.2.1, m.2.2.2.2.2.2.2.2.2.2.2.2.2.1, m.2.2.2.2.2.2.2.2.2.2.2.2.2.2.1, m.2.2.2.2.2.2.2.2.2.2.2.2.2.2.2.1, (0 : Int), (0 : Int), [], [], [], [], (0 : Int), (0 : Int), (0 : Int), (0 : Int), (0 : Int), (0 : Int), (0 : Int), (0 : Int), (0 : Int), [], m.1, m.2.1, m.2.2.1, m.2.2.2.1, m.2.2.2.2.1, m.2.2.2.2.2.1, m.2.2.2.2.2.2.1, m.2.2.2.2.2.2.2.1, m.2.2.2.2.2.2.2.2.1, m.2.2.2.2.2.2.2.2.2.1, m.2.2.2.2.2.2.2.2.2.2.1, m.2.2.2.2.2.2.2.2.2.2.2.1, m.2.2.2.2.2.2.2.2.2.2.2.2.1, m.2.2.2.2.2.2.2.2.2.2.2.2.2.1, m.2.2.2.2.2.2.2.2.2.2.2.2.2.2.1, m.2.2.2.2.2.2.2.2.2.2.2.2.2.2.2.1, [], ((n : Nat) : Int), ()) = some e ∧ aA mY (m.1, m.2.1, m.2.2.1, m.2.2.2.1, m.2.2.2.2.1, m.2.2.2.2.2.1, m.2.2.2.2.2.2.1, m.2.2.2.2.2.2.2.1, m.2.2.2.2.2.2.2.2.1, m.2.2.2.2.2.2.2.2.2.1, m.2.2.2.2.2.2.2.2.2.2.1, m.2.2.2.2.2.2.2.2.2.2.2.1, m.2.2.2.2.2.2.2.2.2.2.2.2.1, m.2.2.2.2.2.2.2.2.2.2.2.2.2.1, m.2.2.2.2.2.2.2.2.2.2.2.2.2.2.1, m.2.2.2.2.2.2.2.2.2.2.2.2.2.2.2.1, (0 : Int), (0 : Int), [], [], [], [], (0 : Int), (0 : Int), (0 : Int), (0 : Int), (0 : Int), (0 : Int), (0 : Int), (0 : Int), (0 : Int), [], m.1, m.2.1, m.2.2.1, m.2.2.2.1, m.2.2.2.2.1, m.2.2.2.2.2.1, m.2.2.2.2.2.2.1, m.2.2.2.2.2.2.2.1, m.2.2.2.2.2.2.2.2.1, m.2.2.2.2.2.2.2.2.2.1, m.2.2.2.2.2.2.2.2.2.2.1, m.2.2.2.2.2.2.2.2.2.2.2.1, m.2.2.2.2.2.2.2.2.2.2.2.2.1, m.2.2.2.2.2.2.2.2.2.2.2.2.2.1, m.2.2.2.2.2.2.2.2.2.2.2.2.2.2.1, m.2.2.2.2.2.2.2.2.2.2.2.2.2.2.2.1, [], ()) = some f ∧
     ∃ (k : Nat) (v : Int), (e = .inl ((0 : Int), (0 : Int), [], [], [], [], (0 : Int), (0 : Int), (0 : Int), (0 : Int), (0 : Int), (0 : Int), (0 : Int), (0 : Int), (0 : Int), [], m.1, m.2.1, m.2.2.1, m.2.2.2.1, m.2.2.2.2.1, m.2.2.2.2.2.1, m.2.2.2.2.2.2.1, m.2.2.2.2.2.2.2.1, m.2.2.2.2.2.2.2.2.1, v, m.2.2.2.2.2.2.2.2.2.2.1, m.2.2.2.2.2.2.2.2.2.2.2.1, m.2.2.2.2.2.2.2.2.2.2.2.2.1, m.2.2.2.2.2.2.2.2.2.2.2.2.2.1, m.2.2.2.2.2.2.2.2.2.2.2.2.2.2.1, m.2.2.2.2.2.2.2.2.2.2.2.2.2.2.2.1, ez m.2.2.2.1 m.2.2.2.2.2.2.2.2.2.1 k, ()) ∨ e = .inr (m.1, m.2.1, m.2.2.1, m.2.2.2.1, m.2.2.2.2.1, m.2.2.2.2.2.1, m.2.2.2.2.2.2.1, m.2.2.2.2.2.2.2.1, m.2.2.2.2.2.2.2.2.1, v, m.2.2.2.2.2.2.2.2.2.2.1, m.2.2.2.2.2.2.2.2.2.2.2.1, m.2.2.2.2.2.2.2.2.2.2.2.2.1, m.2.2.2.2.2.2.2.2.2.2.2.2.2.1, m.2.2.2.2.2.2.2.2.2.2.2.2.2.2.1, m.2.2.2.2.2.2.2.2.2.2.2.2.2.2.2.1, ez m.2.2.2.1 m.2.2.2.2.2.2.2.2.2.1 k, ())) ∧ f = .inl ((0 : Int), (0 : Int), [], [], [], [], (0 : Int), (0 : Int), (0 : Int), (0 : Int), (0 : Int), (0 : Int), (0 : Int), (0 : Int), (0 : Int), [], m.1, m.2.1, m.2.2.1, m.2.2.2.1, m.2.2.2.2.1, m.2.2.2.2.2.1, m.2.2.2.2.2.2.1, m.2.2.2.2.2.2.2.1, m.2.2.2.2.2.2.2.2.1, v, m.2.2.2.2.2.2.2.2.2.2.1, m.2.2.2.2.2.2.2.2.2.2.2.1, m.2.2.2.2.2.2.2.2.2.2.2.2.1, m.2.2.2.2.2.2.2.2.2.2.2.2.2.1, m.2.2.2.2.2.2.2.2.2.2.2.2.2.2.1, m.2.2.2.2.2.2.2.2.2.2.2.2.2.2.2.1, ez m.2.2.2.1 m.2.2.2.2.2.2.2.2.2.1 k, ()) ∧ v = m.2.2.2.2.2.2.2.2.2.1 + ((k : Nat) : Int) ∧ v ≤ ((n : Nat) : Int) ∧
       (∀ j, j < k → ¬ wE m.2.2.2.1 m.2.2.2.2.2.2.2.2.1 (m.2.2.2.2.2.2.2.2.2.1 + ((j + 1 : Nat) : Int))) ∧ (v < ((n : Nat) : Int) → wE m.2.2.2.1 m.2.2.2.2.2.2.2.2.1 (m.2.2.2.2.2.2.2.2.2.1 + ((k + 1 : Nat) : Int))) := by
   refine mL 60 (fun k x y => ∃ v : Int, x = (m.1, m.2.1, m.2.2.1, m.2.2.2.1, m.2.2.2.2.1, m.2.2.2.2.2.1, m.2.2.2.2.2.2.1, m.2.2.2.2.2.2.2.1, m.2.2.2.2.2.2.2.2.1, m.2.2.2.2.2.2.2.2.2.1, m.2.2.2.2.2.2.2.2.2.2.1, m.2.2.2.2.2.2.2.2.2.2.2.1, m.2.2.2.2.2.2.2.2.2.2.2.2.1, m.2.2.2.2.2.2.2.2.2.2.2.2.2.1, m.2.2.2.2.2.2.2.2.2.2.2.2.2.2.1, m.2.2.2.2.2.2.2.2.2.2.2.2.2.2.2.1, (0 : Int), (0 : Int), [], [], [], [], (0 : Int), (0 : Int), (0 : Int), (0 : Int), (0 : Int), (0 : Int), (0 : Int), (0 : Int), (0 : Int), [], m.1, m.2.1, m.2.2.1, m.2.2.2.1, m.2.2.2.2.1, m.2.2.2.2.2.1, m.2.2.2.2.2.2.1, m.2.2.2.2.2.2.2.1, m.2.2.2.2.2.2.2.2.1, v, m.2.2.2.2.2.2.2.2.2.2.1, m.2.2.2.2.2.2.2.2.2.2.2.1, m.2.2.2.2.2.2.2.2.2.2.2.2.1, m.2.2.2.2.2.2.2.2.2.2.2.2.2.1, m.2.2.2.2.2.2.2.2.2.2.2.2.2.2.1, m.2.2.2.2.2.2.2.2.2.2.2.2.2.2.2.1, ez m.2.2.2.1 m.2.2.2.2.2.2.2.2.2.1 k, ((n : Nat) : Int), ()) ∧ y = (m.1, m.2.1, m.2.2.1, m.2.2.2.1, m.2.2.2.2.1, m.2.2.2.2.2.1, m.2.2.2.2.2.2.1, m.2.2.2.2.2.2.2.1, m.2.2.2.2.2.2.2.2.1, m.2.2.2.2.2.2.2.2.2.1, m.2.2.2.2.2.2.2.2.2.2.1, m.2.2.2.2.2.2.2.2.2.2.2.1, m.2.2.2.2.2.2.2.2.2.2.2.2.1, m.2.2.2.2.2.2.2.2.2.2.2.2.2.1, m.2.2.2.2.2.2.2.2.2.2.2.2.2.2.1, m.2.2.2.2.2.2.2.2.2.2.2.2.2.2.2.1, (0 : Int), (0 : Int), [], [], [], [], (0 : Int), (0 : Int), (0 : Int), (0 : Int), (0 : Int), (0 : Int), (0 : Int), (0 : Int), (0 : Int), [], m.1, m.2.1, m.2.2.1, m.2.2.2.1, m.2.2.2.2.1, m.2.2.2.2.2.1, m.2.2.2.2.2.2.1, m.2.2.2.2.2.2.2.1, m.2.2.2.2.2.2.2.2.1, v, m.2.2.2.2.2.2.2.2.2.2.1, m.2.2.2.2.2.2.2.2.2.2.2.1, m.2.2.2.2.2.2.2.2.2.2.2.2.1, m.2.2.2.2.2.2.2.2.2.2.2.2.2.1, m.2.2.2.2.2.2.2.2.2.2.2.2.2.2.1, m.2.2.2.2.2.2.2.2.2.2.2.2.2.2.2.1, ez m.2.2.2.1 m.2.2.2.2.2.2.2.2.2.1 k, ()) ∧ v = m.2.2.2.2.2.2.2.2.2.1 + ((k : Nat) : Int) ∧ v ≤ ((n : Nat) : Int) ∧ ∀ j, j < k → ¬ wE m.2.2.2.1 m.2.2.2.2.2.2.2.2.1 (m.2.2.2.2.2.2.2.2.2.1 + ((j + 1 : Nat) : Int))) _ ?_ ⟨m.2.2.2.2.2.2.2.2.2.1, rfl, rfl, by omega, hh.2, fun j h => by omega⟩
   rintro k x y hk ⟨v, rfl, rfl, q1, q2, q3⟩
   by_cases bN : v < ((n : Nat) : Int)
   · have hw : IntKind.i64.wrap (v + (1 : Int)) = m.2.2.2.2.2.2.2.2.2.1 + ((k + 1 : Nat) : Int) := by rw [fP] <;> omega
     have hbl : Nat.ble (((ez m.2.2.2.1 m.2.2.2.2.2.2.2.2.2.1 k).length + 1) * 40) lim = true := aF (by rw [n7]; unfold lim; omega); have more : ¬ wE m.2.2.2.1 m.2.2.2.2.2.2.2.2.1 (m.2.2.2.2.2.2.2.2.2.1 + ((k + 1 : Nat) : Int)) → ∀ j, j < k + 1 → ¬ wE m.2.2.2.1 m.2.2.2.2.2.2.2.2.1 (m.2.2.2.2.2.2.2.2.2.1 + ((j + 1 : Nat) : Int)) := fun hnw j hj => by
       by_cases e : j < k
       · exact q3 j e
       · have : j = k := by omega
         subst this; exact hnw
     simp only [mS, tN, mY, uB, af bN, a2, hw, oR m.2.2.2.1 _ hl, sj m.2.2.2.1 _ hl, Option.bind_some, cond_true, hbl]
     by_cases c1 : (ns (dm m.2.2.2.1 (m.2.2.2.2.2.2.2.2.2.1 + ((k + 1 : Nat) : Int)))).2.2.1 = 2
     · rw [af c1]
       by_cases c2 : m.2.2.2.2.2.2.2.2.1 < (ns (dm m.2.2.2.1 (m.2.2.2.2.2.2.2.2.2.1 + ((k + 1 : Nat) : Int)))).1
       · rw [af c2]; exact .inl ⟨_, _, rfl, rfl, k, v, .inr rfl, rfl, q1, q2, q3, fun _ => ⟨c1, c2⟩⟩
       · rw [ai c2]; exact .inr ⟨by omega, _, _, rfl, rfl, m.2.2.2.2.2.2.2.2.2.1 + ((k + 1 : Nat) : Int), by rw [sk]; rfl, by rw [sk]; rfl, rfl, by omega, more fun h => c2 h.2⟩
     · rw [ai c1]; exact .inr ⟨by omega, _, _, rfl, rfl, m.2.2.2.2.2.2.2.2.2.1 + ((k + 1 : Nat) : Int), by rw [sk]; rfl, by rw [sk]; rfl, rfl, by omega, more fun h => c1 h.1⟩
   · simp only [mS, tN, mY, uB, ai bN, a2, Option.bind_some, cond_false]; exact .inl ⟨_, _, rfl, rfl, k, v, .inl rfl, rfl, q1, q2, q3, fun h => absurd h bN⟩
 simp only [a1, Option.bind_some, Bool.not_true, cond_false]; rw [g1, g2, g4]; refine ⟨k, v, ?_, rfl, g5, (fun h => by cases h), (fun _ => ⟨by first | exact g6 | (rw [hn]; exact g6), g7, fun h => g8 (by first | exact h | (rw [hn] at h; exact h))⟩)⟩; rcases g3 with rfl | rfl
 · rfl
 · rfl
end Go.TM
set_option linter.unusedSimpArgs false
set_option linter.unusedVariables false
namespace Go.TM
open Go
def QD {A B C : Type} (P : A → Prop) : Sum A B → Sum A C → Prop
 | .inl a, .inl b => a = b ∧ P a
 | _, _ => False
theorem G3 (cF : Int) (cG : Int) (a8 : Int) (cq : Int) (cw : Int) (bS : List (Int × Unit)) (bf : Int) (b9 : List (Int × Unit)) (aJ : List (ByteArray × Unit)) (h0 : List.length bS ≤ 1048576) : ∃ o0 o1 o2 o3 o4 o5 o6, sb cF cG a8 cq cw bS bf b9 aJ = some (o0, o1, o2, o3, o4, o5, o6, ()) ∧ ml cF cG a8 cq cw bS bf b9 aJ = some (o0, o1, o2, o3, o4, o5, o6, ()) ∧ o5 = bS ∧ (List.length o6 + wl pG o6) ≤ 1048576 := by
 obtain ⟨b, k1, k2, k3⟩ := uO cF cG a8 cq cw bS (by omega); obtain ⟨c1, c2⟩ := fY cF cG a8 cq cw bS (by omega); have hm : (if (3 : Int) < ((List.length aJ : Nat) : Int) then (3 : Int) else ((List.length aJ : Nat) : Int)) = ((min 3 aJ.length : Nat) : Int) := by split <;> omega
 unfold sb ml; simp only [k1, k2, c1, c2, oQ, qy, Option.bind_some]
 cases b
 · cases (decide (1 ≤ bf) && decide (bf ≤ 5))
   · exact ⟨_, _, _, _, _, bS, [], rfl, rfl, rfl, by decide⟩
   · exact ⟨_, _, _, _, _, bS, [], rfl, rfl, rfl, by decide⟩
 cases (decide (1 ≤ bf) && decide (bf ≤ 5))
 · exact ⟨_, _, _, _, _, bS, [], rfl, rfl, rfl, by decide⟩
 obtain ⟨z1, z2, z3, z4, z5, z6⟩ := k3 rfl; have Ry : (aJ.take (min 3 aJ.length)).length = min 3 aJ.length := by simp
 simp only [Bool.not_true, cond_false, hm, au, ak, cond_true, List.drop_zero, Ry, af (show ((min 3 aJ.length : Nat) : Int) ≤ ((List.length aJ : Nat) : Int) by omega)]; obtain ⟨e, f, g1, g2, g3⟩ : ∃ e f, aA jj (bf, b9, aJ, cF, cG, a8, cq, cw, bS, (0 : Int), (0 : Int), (0 : Int), (0 : Int), (0 : Int), [], cF, cG, a8, cq, cw, bS, [], (0 : Int), ()) = some e ∧
     aA cT (bf, b9, cF, cG, a8, cq, cw, bS, (0 : Int), (0 : Int), (0 : Int), (0 : Int), (0 : Int), [], cF, cG, a8, cq, cw, bS, [], aJ.take (min 3 aJ.length), ((min 3 aJ.length : Nat) : Int), (0 : Int), ()) = some f ∧
     QD (fun v => ∃ (q : Int) (l : aG), v = (cF, cG, a8, cq, cw, bS, (0 : Int), (0 : Int), (0 : Int), (0 : Int), (0 : Int), [], cF, cG, q, cq, cw, bS, l, ()) ∧ l.length ≤ 3 ∧ wl pG l ≤ 180) e f := by
   refine mL 3 (fun k x y => ∃ l : aG, x = (bf, b9, aJ, cF, cG, a8, cq, cw, bS, (0 : Int), (0 : Int), (0 : Int), (0 : Int), (0 : Int), [], cF, cG, a8 + ((k : Nat) : Int), cq, cw, bS, l, ((k : Nat) : Int), ()) ∧
     y = (bf, b9, cF, cG, a8, cq, cw, bS, (0 : Int), (0 : Int), (0 : Int), (0 : Int), (0 : Int), [], cF, cG, a8 + ((k : Nat) : Int), cq, cw, bS, l, aJ.take (min 3 aJ.length), ((min 3 aJ.length : Nat) : Int), ((k : Nat) : Int), ()) ∧ l.length = k ∧ wl pG l ≤ 60 * k) _ ?_ ⟨[], by rw [show a8 + ((0 : Nat) : Int) = a8 by omega]; rfl, by rw [show a8 + ((0 : Nat) : Int) = a8 by omega]; rfl, rfl, Nat.le_refl _⟩
   rintro k x y hk ⟨l, rfl, rfl, q1, q2⟩
   have stop : ∀ {A B : Type} (u : Sum _ A) (v : Sum _ B), u = .inl (cF, cG, a8, cq, cw, bS, (0 : Int), (0 : Int), (0 : Int), (0 : Int), (0 : Int), ([] : List (Int × Unit)), cF, cG, a8 + ((k : Nat) : Int), cq, cw, bS, l, ()) → v = .inl (cF, cG, a8, cq, cw, bS, (0 : Int), (0 : Int), (0 : Int), (0 : Int), (0 : Int), ([] : List (Int × Unit)), cF, cG, a8 + ((k : Nat) : Int), cq, cw, bS, l, ()) →
       QD (fun v => ∃ (q : Int) (l : aG), v = (cF, cG, a8, cq, cw, bS, (0 : Int), (0 : Int), (0 : Int), (0 : Int), (0 : Int), ([] : List (Int × Unit)), cF, cG, q, cq, cw, bS, l, ()) ∧ l.length ≤ 3 ∧ wl pG l ≤ 180) u v := by
     intro A B u v e1 e2; subst e1 e2; exact ⟨rfl, _, l, rfl, by omega, by omega⟩
   by_cases h1 : k < aJ.length
   · by_cases h4 : k < 3
     · have Yu : k < min 3 aJ.length := by omega
       have B9 : (aJ.take (min 3 aJ.length))[k]? = some aJ[k] := by rw [List.getElem?_take_of_lt Yu]; exact List.getElem?_eq_getElem h1
       have e1 : IntKind.i64.wrap ((a8 + ((k : Nat) : Int)) + (1 : Int)) = a8 + ((k + 1 : Nat) : Int) := by rw [fP] <;> omega
       simp only [jj, mU, cT, fb, aw h1, aw Yu, af (show ((k : Nat) : Int) < (3 : Int) by omega), ak, cond_true, au, List.getElem?_eq_getElem h1, B9, Option.bind_some, e1, aF (show (l.length + 1) * 40 ≤ lim by unfold lim; omega), aC (show k < 4611686018427387904 by omega)]
       by_cases h5 : a8 + ((k : Nat) : Int) < 60
       · rw [af h5, ai (show ¬ (60 : Int) ≤ a8 + ((k : Nat) : Int) by omega)]
         by_cases h6 : ((ByteArray.size aJ[k].1 : Nat) : Int) ≤ 60
         · rw [af h6, ai (show ¬ (60 : Int) < ((ByteArray.size aJ[k].1 : Nat) : Int) by omega)]; have add : ∀ lv : Int, wl pG (l ++ [(a8 + ((k + 1 : Nat) : Int), bf, lv, aJ[k].1, ())]) ≤ 60 * (k + 1) := by
             intro lv; rw [Va]; have : wl pG [(a8 + ((k + 1 : Nat) : Int), bf, lv, aJ[k].1, ())] = ByteArray.size aJ[k].1 := rfl; omega
           by_cases h7 : k < b9.length
           · rw [aw h7]; simp only [cond_true, cond_false, List.getElem?_eq_getElem h7, Option.bind_some]
             cases decide (b9[k].1 = 2)
             · exact .inr ⟨h4, _, _, rfl, rfl, _, rfl, rfl, by simp [q1], add 1⟩
             · exact .inr ⟨h4, _, _, rfl, rfl, _, rfl, rfl, by simp [q1], add 2⟩
           · rw [ai (show ¬ ((k : Nat) : Int) < ((List.length b9 : Nat) : Int) by omega)]; exact .inr ⟨h4, _, _, rfl, rfl, _, rfl, rfl, by simp [q1], add 1⟩
         · rw [ai h6, af (show (60 : Int) < ((ByteArray.size aJ[k].1 : Nat) : Int) by omega)]; exact .inl ⟨_, _, rfl, rfl, stop _ _ rfl rfl⟩
       · rw [ai h5, af (show (60 : Int) ≤ a8 + ((k : Nat) : Int) by omega)]; exact .inl ⟨_, _, rfl, rfl, stop _ _ rfl rfl⟩
     · have hk3 : k = 3 := by omega
       refine .inl ⟨_, _, ?_, ?_, stop _ _ rfl rfl⟩
       · simp only [jj, mU, aw h1, ai (show ¬ ((k : Nat) : Int) < (3 : Int) by omega), cond_true, cond_false]
       · simp only [cT, fb, ai (show ¬ ((k : Nat) : Int) < ((min 3 aJ.length : Nat) : Int) by omega), cond_false]
   · refine .inl ⟨_, _, ?_, ?_, stop _ _ rfl rfl⟩
     · simp only [jj, mU, ai (show ¬ ((k : Nat) : Int) < ((List.length aJ : Nat) : Int) by omega), cond_false]
     · simp only [cT, fb, ai (show ¬ ((k : Nat) : Int) < ((min 3 aJ.length : Nat) : Int) by omega), cond_false]
 rw [g1, g2]
 cases e with
 | inr e => exact g3.elim
 | inl e => cases f with
   | inr f => exact g3.elim
   | inl f =>
     obtain ⟨rfl, q, l, rfl, q1, q2⟩ := g3; simp only [gG]
     cases decide (cq = a8)
     · exact ⟨_, _, _, _, _, bS, l, rfl, rfl, rfl, by omega⟩
     · cases decide (cw = 0)
       · exact ⟨_, _, _, _, _, bS, l, rfl, rfl, rfl, by omega⟩
       · exact ⟨_, _, _, _, _, bS, l, rfl, rfl, rfl, by omega⟩
end Go.TM
set_option linter.unusedSimpArgs false
set_option linter.unusedVariables false
namespace Go.TM
open Go
def qj (c2 from_ : Int) (level : List (Int × Unit)) (texts : List (ByteArray × Unit)) (j : Nat) : cu :=
 (c2 + ((j + 1 : Nat) : Int), from_, (bif decide (j < level.length) && decide ((level.getD j ((0 : Int), ())).1 = 2) then 2 else 1), (texts.getD j (ByteArray.empty, ())).1, ())
def cK (c2 from_ : Int) (level : List (Int × Unit)) (texts : List (ByteArray × Unit)) (m : Nat) : aG := (List.range m).map (qj c2 from_ level texts)
theorem eU (c2 from_ : Int) (level : List (Int × Unit)) (texts : List (ByteArray × Unit)) (m : Nat) : (cK c2 from_ level texts m).length = m := by simp [cK]
theorem EW (c2 from_ : Int) (level : List (Int × Unit)) (texts : List (ByteArray × Unit)) (m : Nat) : cK c2 from_ level texts (m + 1) = cK c2 from_ level texts m ++ [qj c2 from_ level texts m] := by
 unfold cK; rw [List.range_succ, List.map_append]; rfl
def Cr (c2 : Int) (texts : List (ByteArray × Unit)) (m : Nat) : Prop := m = min 3 texts.length ∨ 60 ≤ c2 + ((m : Nat) : Int) ∨ ∃ h : m < texts.length, 60 < ByteArray.size texts[m].1
theorem KV (cF : Int) (cG : Int) (a8 : Int) (cq : Int) (cw : Int) (bS : List (Int × Unit)) (bf : Int) (b9 : List (Int × Unit)) (aJ : List (ByteArray × Unit)) (h0 : List.length bS ≤ 1048576) (h3 : List.length aJ ≤ 1048576) (hd : 1 ≤ bf ∧ bf ≤ 5) (ht : Ys cF cG a8 cq cw bS) :
   ∃ m t3, ml cF cG a8 cq cw bS bf b9 aJ = some (cF, cG, a8 + ((m : Nat) : Int), t3, cw, bS, cK a8 bf b9 aJ m, ()) ∧ m ≤ 3 ∧ m ≤ aJ.length ∧ a8 + ((m : Nat) : Int) ≤ 60 ∧ (t3 = cq ∨ t3 = a8 + ((m : Nat) : Int)) ∧ Cr a8 aJ m ∧ t3 = (if cq = a8 ∧ cw = 0 then a8 + ((m : Nat) : Int) else cq) := by
 obtain ⟨b, _, k2, k3⟩ := F6 cF cG a8 cq cw bS h0; have hb := k3.2 ht; subst hb; obtain ⟨_, c2⟩ := fY cF cG a8 cq cw bS h0; obtain ⟨_, _, z2, z3, _⟩ := ht; have hm : (if (3 : Int) < ((List.length aJ : Nat) : Int) then (3 : Int) else ((List.length aJ : Nat) : Int)) = ((min 3 aJ.length : Nat) : Int) := by split <;> omega
 have Ry : (aJ.take (min 3 aJ.length)).length = min 3 aJ.length := by simp
 unfold ml; simp only [k2, c2, qy, af hd.1, af hd.2, Bool.and_self, Option.bind_some, Bool.not_true, cond_false, hm, au, ak, cond_true, List.drop_zero, Ry, af (show ((min 3 aJ.length : Nat) : Int) ≤ ((List.length aJ : Nat) : Int) by omega)]; have fin : ∀ (k : Nat), ∃ v : Int × Int × Int × Int × Int × (List (Int × Unit)) × Int × Int × Int × Int × Int × (List (Int × Unit)) × Int × Int × Int × Int × Int × (List (Int × Unit)) × aG × Unit, v = (cF, cG, a8, cq, cw, bS, (0 : Int), (0 : Int), (0 : Int), (0 : Int), (0 : Int), [], cF, cG, a8 + ((k : Nat) : Int), cq, cw, bS, cK a8 bf b9 aJ k, ()) := fun k => ⟨_, rfl⟩
 obtain ⟨e, g1, m, g2, g3, g4, g5, g6⟩ : ∃ e, aA cT (bf, b9, cF, cG, a8, cq, cw, bS, (0 : Int), (0 : Int), (0 : Int), (0 : Int), (0 : Int), [], cF, cG, a8, cq, cw, bS, [], aJ.take (min 3 aJ.length), ((min 3 aJ.length : Nat) : Int), (0 : Int), ()) = some e ∧
     ∃ m : Nat, e = .inl (cF, cG, a8, cq, cw, bS, (0 : Int), (0 : Int), (0 : Int), (0 : Int), (0 : Int), [], cF, cG, a8 + ((m : Nat) : Int), cq, cw, bS, cK a8 bf b9 aJ m, ()) ∧ m ≤ 3 ∧ m ≤ aJ.length ∧ a8 + ((m : Nat) : Int) ≤ 60 ∧ Cr a8 aJ m := by
   refine dV (min 3 aJ.length) (fun k x => x = (bf, b9, cF, cG, a8, cq, cw, bS, (0 : Int), (0 : Int), (0 : Int), (0 : Int), (0 : Int), [], cF, cG, a8 + ((k : Nat) : Int), cq, cw, bS, cK a8 bf b9 aJ k, aJ.take (min 3 aJ.length), ((min 3 aJ.length : Nat) : Int), ((k : Nat) : Int), ()) ∧ a8 + ((k : Nat) : Int) ≤ 60) _ ?_ ?_ ⟨by rw [show a8 + ((0 : Nat) : Int) = a8 by omega]; rfl, by omega⟩
   · rintro x ⟨rfl, q⟩
     exact ⟨_, by simp only [cT, fb, az, cond_false], _, rfl, by omega, by omega, q, .inl rfl⟩
   · rintro k x Yu ⟨rfl, q⟩
     have h1 : k < aJ.length := by omega
     have B9 : (aJ.take (min 3 aJ.length))[k]? = some aJ[k] := by rw [List.getElem?_take_of_lt Yu]; exact List.getElem?_eq_getElem h1
     have Ro : (aJ.getD k (ByteArray.empty, ())).1 = aJ[k].1 := by rw [List.getD_eq_getElem?_getD, List.getElem?_eq_getElem h1, Option.getD_some]
     have stop : Cr a8 aJ k → ∃ m : Nat, (.inl (cF, cG, a8, cq, cw, bS, (0 : Int), (0 : Int), (0 : Int), (0 : Int), (0 : Int), [], cF, cG, a8 + ((k : Nat) : Int), cq, cw, bS, cK a8 bf b9 aJ k, ()) : Sum _ Unit) = .inl (cF, cG, a8, cq, cw, bS, (0 : Int), (0 : Int), (0 : Int), (0 : Int), (0 : Int), ([] : List (Int × Unit)), cF, cG, a8 + ((m : Nat) : Int), cq, cw, bS, cK a8 bf b9 aJ m, ()) ∧ m ≤ 3 ∧ m ≤ aJ.length ∧ a8 + ((m : Nat) : Int) ≤ 60 ∧ Cr a8 aJ m :=
       fun hq => ⟨k, rfl, by omega, by omega, q, hq⟩
     by_cases h5 : (60 : Int) ≤ a8 + ((k : Nat) : Int)
     · refine .inl ⟨_, ?_, stop (.inr (.inl h5))⟩; simp only [cT, fb, aw Yu, ak, cond_true, au, B9, Option.bind_some, af h5]
     have e1 : IntKind.i64.wrap ((a8 + ((k : Nat) : Int)) + (1 : Int)) = a8 + ((k + 1 : Nat) : Int) := by rw [fP] <;> omega
     by_cases h6 : (60 : Int) < ((ByteArray.size aJ[k].1 : Nat) : Int)
     · refine .inl ⟨_, ?_, stop (.inr (.inr ⟨h1, by omega⟩))⟩; simp only [cT, fb, aw Yu, ak, cond_true, cond_false, au, B9, Option.bind_some, ai h5, af h6]
     refine .inr ⟨_, ?_, rfl, by omega⟩; have hlen := eU a8 bf b9 aJ k; simp only [cT, fb, aw Yu, ak, cond_true, cond_false, au, B9, Option.bind_some, ai h5, ai h6, e1, hlen, aF (show (k + 1) * 40 ≤ lim by unfold lim; omega), aC (show k < 4611686018427387904 by omega)]; rw [EW]; unfold qj; rw [Ro]
     by_cases h7 : k < b9.length
     · have hgl : b9.getD k ((0 : Int), ()) = b9[k] := by rw [List.getD_eq_getElem?_getD, List.getElem?_eq_getElem h7, Option.getD_some]
       rw [aw h7, af h7, hgl]; simp only [cond_true, List.getElem?_eq_getElem h7, Option.bind_some, Bool.true_and]
       cases decide (b9[k].1 = 2) <;> rfl
     · rw [ai (show ¬ ((k : Nat) : Int) < ((List.length b9 : Nat) : Int) by omega), ai h7]; rfl
 rw [g1]; subst g2; simp only [gG]
 by_cases w1 : cq = a8
 · rw [af w1]
   by_cases w2 : cw = 0
   · rw [af w2]; exact ⟨m, _, rfl, g3, g4, g5, .inr rfl, g6, by rw [if_pos ⟨w1, w2⟩]⟩
   · rw [ai w2]; exact ⟨m, _, rfl, g3, g4, g5, .inl rfl, g6, by rw [if_neg (fun h => w2 h.2)]⟩
 · rw [ai w1]; exact ⟨m, _, rfl, g3, g4, g5, .inl rfl, g6, by rw [if_neg (fun h => w1 h.1)]⟩
end Go.TM
set_option linter.unusedSimpArgs false
set_option linter.unusedVariables false
namespace Go.TM
open Go
def wF (c2 c3 c4 d a : Int) : Int := if a < c3 then a else if c4 = d then (if c2 < a then c2 else a) else c3
def wG (c2 c3 c4 d a : Int) : Int := if a < c3 then d else if c4 = d then (if c2 ≤ a then 0 else c4) else c4
theorem QE (c0 c1 c2 c3 c4 : Int) (xs : List (Int × Unit)) (d a : Int) (h : xs.length ≤ 1048576) {b : Bool} (hb : db c0 c1 c2 c3 c4 xs = some (b, ())) :
   ∃ t3 t4, wZ c0 c1 c2 c3 c4 xs d a = some (c0, c1, c2, t3, t4, xs, ()) ∧ w6 c0 c1 c2 c3 c4 xs d a = some (c0, c1, c2, t3, t4, xs, ()) ∧
     (b = false ∨ d < 1 ∨ 5 < d ∨ a < 0 → t3 = c3 ∧ t4 = c4) ∧ (b = true → 1 ≤ d → d ≤ 5 → 0 ≤ a → 0 ≤ c3 → c3 ≤ c2 → 0 ≤ t3 ∧ t3 ≤ c2 ∧ t3 ≤ a ∧ (t3 ≤ c3 ∨ c4 = d) ∧ (t4 = c4 ∨ t4 = d ∨ (t4 = 0 ∧ c4 = d))) ∧ (b = true → 1 ≤ d → d ≤ 5 → 0 ≤ a → t3 = wF c2 c3 c4 d a ∧ t4 = wG c2 c3 c4 d a) := by
 obtain ⟨b', h1, h2, _⟩ := uO c0 c1 c2 c3 c4 xs h; rw [hb] at h1; obtain rfl : b = b' := by injection h1 with h1; injection h1
 obtain ⟨h3, h4⟩ := fY c0 c1 c2 c3 c4 xs h; unfold wZ w6; simp only [Option.bind_some, hb, h2, h3, h4, oQ, qy]
 cases b
 · have : ∀ t3 t4 : Int, t3 = c3 → t4 = c4 → (false = false ∨ d < 1 ∨ 5 < d ∨ a < 0 → t3 = c3 ∧ t4 = c4) ∧ (false = true → 1 ≤ d → d ≤ 5 → 0 ≤ a → 0 ≤ c3 → c3 ≤ c2 → 0 ≤ t3 ∧ t3 ≤ c2 ∧ t3 ≤ a ∧ (t3 ≤ c3 ∨ c4 = d) ∧ (t4 = c4 ∨ t4 = d ∨ (t4 = 0 ∧ c4 = d))) ∧ (false = true → 1 ≤ d → d ≤ 5 → 0 ≤ a → t3 = wF c2 c3 c4 d a ∧ t4 = wG c2 c3 c4 d a) :=
     fun t3 t4 e1 e2 => ⟨fun _ => ⟨e1, e2⟩, (fun h => by cases h), (fun h => by cases h)⟩
   cases (decide (1 ≤ d) && decide (d ≤ 5))
   · exact ⟨_, _, rfl, rfl, this _ _ rfl rfl⟩
   cases decide (a < 0)
   · exact ⟨_, _, rfl, rfl, this _ _ rfl rfl⟩
   · exact ⟨_, _, rfl, rfl, this _ _ rfl rfl⟩
 by_cases hd : 1 ≤ d ∧ d ≤ 5
 · rw [af hd.1, af hd.2]
   by_cases ha : a < 0
   · rw [af ha]; exact ⟨_, _, rfl, rfl, (fun _ => ⟨rfl, rfl⟩), (fun _ _ _ h => by omega), (fun _ _ _ h => by omega)⟩
   rw [ai ha]; have no : ∀ {A : Prop}, (true = false ∨ d < 1 ∨ 5 < d ∨ a < 0) → A := by
     rintro A (h | h | h | h)
     · cases h
     · omega
     · omega
     · omega
   by_cases h5 : a < c3
   · rw [af h5]; exact ⟨_, _, rfl, rfl, no, (fun _ _ _ _ _ _ => ⟨by omega, by omega, by omega, .inl (by omega), .inr (.inl rfl)⟩), fun _ _ _ _ => by unfold wF wG; rw [if_pos h5, if_pos h5]; exact ⟨rfl, rfl⟩⟩
   rw [ai h5]
   by_cases h6 : c4 = d
   · rw [af h6]
     by_cases h7 : c2 < a
     · rw [af h7, if_pos h7, af (show c2 = c2 from rfl)]; exact ⟨_, _, rfl, rfl, no, (fun _ _ _ _ _ _ => ⟨by omega, by omega, by omega, .inr h6, .inr (.inr ⟨rfl, h6⟩)⟩), fun _ _ _ _ => by unfold wF wG; rw [if_neg h5, if_neg h5, if_pos h6, if_pos h6, if_pos h7, if_pos (by omega)]; exact ⟨rfl, rfl⟩⟩
     · rw [ai h7, if_neg h7]
       by_cases h8 : a = c2
       · rw [af h8]; exact ⟨_, _, rfl, rfl, no, (fun _ _ _ _ _ _ => ⟨by omega, by omega, by omega, .inr h6, .inr (.inr ⟨rfl, h6⟩)⟩), fun _ _ _ _ => by unfold wF wG; rw [if_neg h5, if_neg h5, if_pos h6, if_pos h6, if_neg h7, if_pos (by omega)]; exact ⟨rfl, rfl⟩⟩
       · rw [ai h8]; exact ⟨_, _, rfl, rfl, no, (fun _ _ _ _ _ _ => ⟨by omega, by omega, by omega, .inr h6, .inl rfl⟩), fun _ _ _ _ => by unfold wF wG; rw [if_neg h5, if_neg h5, if_pos h6, if_pos h6, if_neg h7, if_neg (by omega)]; exact ⟨rfl, rfl⟩⟩
   · rw [ai h6]; exact ⟨_, _, rfl, rfl, no, (fun _ _ _ _ _ _ => ⟨by omega, by omega, by omega, .inl (by omega), .inl rfl⟩), fun _ _ _ _ => by unfold wF wG; rw [if_neg h5, if_neg h5, if_neg h6, if_neg h6]; exact ⟨rfl, rfl⟩⟩
 · have e : (decide (1 ≤ d) && decide (d ≤ 5)) = false := by
     cases hq : (decide (1 ≤ d) && decide (d ≤ 5))
     · rfl
     · rw [Bool.and_eq_true, decide_eq_true_eq, decide_eq_true_eq] at hq; exact absurd hq hd
   rw [e]; exact ⟨_, _, rfl, rfl, (fun _ => ⟨rfl, rfl⟩), (fun _ h1 h2 => absurd ⟨h1, h2⟩ hd), (fun _ h1 h2 => absurd ⟨h1, h2⟩ hd)⟩
end Go.TM
set_option linter.unusedSimpArgs false
set_option linter.unusedVariables false
namespace Go.TM
open Go
theorem G4 (d : Int) (xs : List (Int × Unit)) (h : xs.length ≤ 1048576) : dF xs d = some (decide (d ∈ aZ xs), ()) := by
 obtain ⟨e, he, hq⟩ := dV (round := cC) (x := (xs, d, ((0 : Nat) : Int), ())) xs.length (fun k x => x = (xs, d, ((k : Nat) : Int), ()) ∧ d ∉ aZ (xs.take k)) (fun e => (e = .inl () ∧ d ∉ aZ xs) ∨ (e = .inr (true, ()) ∧ d ∈ aZ xs)) (by
     rintro x ⟨rfl, g⟩
     rw [List.take_length] at g; exact ⟨.inl (), by simp only [cC, iR, az, cond_false], .inl ⟨rfl, g⟩⟩) (by
     rintro k x hk ⟨rfl, g⟩
     simp only [cC, iR, aw hk, ak, cond_true, au, List.getElem?_eq_getElem hk, Option.bind_some, aC (show k < 4611686018427387904 by omega)]
     by_cases e : xs[k].1 = d
     · rw [af e]; exact .inl ⟨_, rfl, .inr ⟨rfl, by rw [← e]; exact List.mem_map_of_mem (List.getElem_mem hk)⟩⟩
     · rw [ai e]; refine .inr ⟨_, rfl, rfl, ?_⟩; rw [List.take_succ_eq_append_getElem hk]; unfold aZ at g ⊢; rw [List.map_append, List.mem_append]
       rintro (h1 | h1)
       · exact g h1
       · simp only [List.map_cons, List.map_nil, List.mem_singleton] at h1; exact e h1.symm) ⟨rfl, by simp [aZ]⟩
 have he : aA cC (xs, d, (0 : Int), ()) = some e := he; unfold dF; rw [he]; rcases hq with ⟨rfl, g⟩ | ⟨rfl, g⟩
 · rw [ai g]; rfl
 · rw [af g]; rfl
theorem G5 (d : Int) (xs : List (Int × Unit)) (h : xs.length ≤ 1048576) : bX xs d = some (decide (d ∈ aZ xs), ()) := by
 obtain ⟨b, h1, h2⟩ := sC d xs h; rw [G4 d xs h] at h1; injection h1 with h1; injection h1 with h1 _; rw [h2, h1]
def hasB (list : aG) (s : Int) : Bool := (dm list s).isSome
theorem wH (o : Option cu) : (ns o).2.2.2.2.1 = o.isSome := by cases o <;> rfl
def G6 {B C : Type} (list : aG) (u : Int) : Sum ((List (Int × Unit)) × Unit) B → Sum ((List (Int × Unit)) × Unit) C → Prop
 | .inl a, .inl b => a = b ∧ ∃ ms : List Int, a.1 = aO ms ∧ ms.length ≤ 20 ∧ ∀ s ∈ ms, 1 ≤ s ∧ s ≤ u ∧ hasB list s = false
 | _, _ => False
theorem Ac (list : aG) (upto u : Int) (n : Nat) (h : list.length ≤ 1048576) (hn : n ≤ 1048576) (hu : (if (60 : Int) < upto then (60 : Int) else upto) = u) (ano : u ≤ 60) :
   ∃ e f, aA fD (list, u, [], ((n + 1 : Nat) : Int), ()) = some e ∧ aA ia (list, upto, [], ((n + 1 : Nat) : Int), ()) = some f ∧ G6 list u e f := by
 refine mL 61 (fun k x y => ∃ ms : List Int, x = (list, u, aO ms, ((n + 1 + k : Nat) : Int), ()) ∧ y = (list, upto, aO ms, ((n + 1 + k : Nat) : Int), ()) ∧ ms.length ≤ 20 ∧ ∀ s ∈ ms, 1 ≤ s ∧ s ≤ u ∧ hasB list s = false) (G6 list u) ?_ ⟨[], rfl, rfl, by simp, fun s hs => by cases hs⟩
 rintro k x y hk ⟨ms, rfl, rfl, q1, q2⟩
 have stop : G6 (B := Unit) (C := Unit) list u (.inl (aO ms, ())) (.inl (aO ms, ())) := ⟨rfl, ms, rfl, q1, q2⟩
 by_cases bN : ((n + 1 + k : Nat) : Int) ≤ u
 case neg =>
   refine .inl ⟨.inl (aO ms, ()), .inl (aO ms, ()), ?_, ?_, ⟨rfl, ms, rfl, q1, q2⟩⟩
   · simp only [fD, lN, ai bN, cond_false]
   · simp only [ia, lQ, hu, ai bN, cond_false]
 by_cases Ub : ((List.length (aO ms) : Nat) : Int) < 20
 case neg =>
   refine .inl ⟨.inl (aO ms, ()), .inl (aO ms, ()), ?_, ?_, ⟨rfl, ms, rfl, q1, q2⟩⟩
   · simp only [fD, lN, af bN, ai Ub, cond_true, cond_false]
   · simp only [ia, lQ, hu, af bN, ai Ub, cond_true, cond_false]
 have hl : (aO ms).length = ms.length := bQ ms; simp only [fD, lN, ia, lQ, hu, af bN, af Ub, cond_true, oR list _ h, sj list _ h, Option.bind_some, wH, aF (show ((aO ms).length + 1) * 8 ≤ lim by unfold lim; omega), aC (show n + 1 + k < 4611686018427387904 by omega)]
 cases hh : (dm list ((n + 1 + k : Nat) : Int)).isSome
 · refine .inr ⟨by omega, _, _, rfl, rfl, ms ++ [((n + 1 + k : Nat) : Int)], by simp [aO]; omega, by simp [aO]; omega, by simp; omega, fun s hs => ?_⟩; rcases List.mem_append.1 hs with hs | hs
   · exact q2 s hs
   · rw [List.mem_singleton] at hs; subst hs; exact ⟨by omega, by omega, hh⟩
 · exact .inr ⟨by omega, _, _, rfl, rfl, ms, by rw [show n + 1 + k + 1 = n + 1 + (k + 1) by omega], by rw [show n + 1 + k + 1 = n + 1 + (k + 1) by omega], q1, q2⟩
theorem I2 (list : aG) (upto : Int) (h : list.length ≤ 1048576) : ∃ ms : List Int, mV list upto = some (aO ms, ()) ∧ m8 list upto = some (aO ms, ()) ∧ ms.length ≤ 20 ∧ ∀ s ∈ ms, 1 ≤ s ∧ (s ≤ 60 ∧ s ≤ upto) ∧ hasB list s = false := by
 obtain ⟨n, a1, a2, a3, _⟩ := D4 list h; have hw : IntKind.i64.wrap (((n : Nat) : Int) + (1 : Int)) = ((n + 1 : Nat) : Int) := aC (by omega); unfold mV m8; simp only [a1, a2, Option.bind_some, hw]
 by_cases hu : (60 : Int) < upto
 · obtain ⟨e, f, g1, g2, g3⟩ := Ac list upto 60 n h (by omega) (if_pos hu) (by omega); rw [af hu]; simp only [cond_true, g1, g2]
   cases e with
   | inr e => exact g3.elim
   | inl e => cases f with
     | inr f => exact g3.elim
     | inl f =>
       obtain ⟨rfl, ms, k1, k2, k3⟩ := g3; simp only [gG]; exact ⟨ms, by rw [k1], by rw [k1], k2, fun s hs => ⟨(k3 s hs).1, ⟨(k3 s hs).2.1, by have := (k3 s hs).2.1; omega⟩, (k3 s hs).2.2⟩⟩
 · obtain ⟨e, f, g1, g2, g3⟩ := Ac list upto upto n h (by omega) (if_neg hu) (by omega); rw [ai hu]; simp only [cond_false, g1, g2]
   cases e with
   | inr e => exact g3.elim
   | inl e => cases f with
     | inr f => exact g3.elim
     | inl f =>
       obtain ⟨rfl, ms, k1, k2, k3⟩ := g3; simp only [gG]; exact ⟨ms, by rw [k1], by rw [k1], k2, fun s hs => ⟨(k3 s hs).1, ⟨by have := (k3 s hs).2.1; omega, (k3 s hs).2.1⟩, (k3 s hs).2.2⟩⟩
theorem D9 : ∀ (a b : List Int), a.Pairwise (· < ·) → b.Pairwise (· < ·) → (∀ x, x ∈ a ↔ x ∈ b) → a = b
 | [], [], _, _, _ => rfl
 | [], y :: b, _, _, h => absurd ((h y).2 List.mem_cons_self) (by simp)
 | x :: a, [], _, _, h => absurd ((h x).1 List.mem_cons_self) (by simp)
 | x :: a, y :: b, ha, hb, h => by
   rw [List.pairwise_cons] at ha hb; have hxy : x = y := by
     rcases List.mem_cons.1 ((h x).1 List.mem_cons_self) with e | e
     · exact e
     · have h1 := hb.1 x e; rcases List.mem_cons.1 ((h y).2 List.mem_cons_self) with e2 | e2
       · exact e2.symm
       · have h2 := ha.1 y e2; omega
   subst hxy
   congr 1
   refine D9 a b ha.2 hb.2 fun z => ⟨fun hz => ?_, fun hz => ?_⟩
   · rcases List.mem_cons.1 ((h z).1 (List.mem_cons_of_mem _ hz)) with e | e
     · have := ha.1 z hz; omega
     · exact e
   · rcases List.mem_cons.1 ((h z).2 (List.mem_cons_of_mem _ hz)) with e | e
     · have := hb.1 z hz; omega
     · exact e
theorem SK (l : List Int) : (l.mergeSort fun x y => decide (x ≤ y)).Pairwise (· ≤ ·) := by
 have := List.pairwise_mergeSort (le := fun x y : Int => decide (x ≤ y)) (fun a b c h1 h2 => by simp only [decide_eq_true_eq] at *; omega) (fun a b => by simp only [Bool.or_eq_true, decide_eq_true_eq]; omega) l; exact this.imp fun h => by simpa using h
theorem QF (l : List Int) (x : Int) : x ∈ (l.mergeSort fun x y => decide (x ≤ y)) ↔ x ∈ l := (List.mergeSort_perm l _).mem_iff
theorem tc (l : List Int) (j : Nat) (h : j < l.length) : l.toArray[j]! = l[j] := by
 rw [getElem!_pos l.toArray j (by simpa using h)]; simp
theorem Ea (l : List Int) (h : l.Pairwise (· ≤ ·)) : (Lib.compact l).Pairwise (· < ·) := by
 unfold Lib.compact Lib.compactUpTo; rw [List.pairwise_map]; have hr : ((List.range l.length).filter (Lib.keeps l.toArray)).Pairwise (· < ·) := List.Pairwise.filter _ List.pairwise_lt_range; refine hr.imp_of_mem fun {i j} hi hj Q7 => ?_
 obtain ⟨hi1, _⟩ := List.mem_filter.1 hi; obtain ⟨Ra, IA⟩ := List.mem_filter.1 hj; have hi1 := List.mem_range.1 hi1; have Ra := List.mem_range.1 Ra; have hk : l.toArray[j]! ≠ l.toArray[j - 1]! := by
   unfold Lib.keeps at IA; rw [decide_eq_true_eq] at IA; exact IA.resolve_left (by omega)
 have hp := List.pairwise_iff_getElem.1 h; have h1 := hp (j - 1) j (by omega) Ra (by omega); rw [tc l j Ra, tc l (j - 1) (by omega)] at hk; rw [tc l i hi1, tc l j Ra]
 by_cases e : i = j - 1
 · subst e; omega
 · have h2 := hp i (j - 1) hi1 (by omega) (by omega); omega
theorem I3 (l : List Int) (x : Int) : x ∈ Lib.compact l ↔ x ∈ l := by
 unfold Lib.compact Lib.compactUpTo; rw [List.mem_map]
 constructor
 · rintro ⟨j, hj, rfl⟩
   have Ra := List.mem_range.1 (List.mem_filter.1 hj).1; rw [tc l j Ra]; exact List.getElem_mem Ra
 · intro hx; have key : ∀ j, j < l.length → ∃ i, i ∈ (List.range l.length).filter (Lib.keeps l.toArray) ∧ l.toArray[i]! = l.toArray[j]! := by
     intro j
     induction j with
     | zero => intro h0; exact ⟨0, List.mem_filter.2 ⟨List.mem_range.2 h0, by simp [Lib.keeps]⟩, rfl⟩
     | succ j ih =>
       intro hj
       by_cases e : l.toArray[j + 1]! = l.toArray[j]!
       · obtain ⟨i, h1, h2⟩ := ih (by omega); exact ⟨i, h1, by rw [h2, e]⟩
       · exact ⟨j + 1, List.mem_filter.2 ⟨List.mem_range.2 hj, by unfold Lib.keeps; rw [decide_eq_true_eq, Nat.add_sub_cancel]; exact .inr e⟩, rfl⟩
   obtain ⟨j, hj, rfl⟩ := List.mem_iff_getElem.1 hx; obtain ⟨i, h1, h2⟩ := key j hj; exact ⟨i, h1, by rw [h2, tc l j hj]⟩
def ints (n : Nat) : List Int := (List.range n).map fun i => ((i + 1 : Nat) : Int)
theorem Ga (n : Nat) : ints (n + 1) = ints n ++ [((n + 1 : Nat) : Int)] := by
 unfold ints; rw [List.range_succ, List.map_append]; rfl
theorem QG (n : Nat) (x : Int) : x ∈ ints n ↔ 1 ≤ x ∧ x ≤ ((n : Nat) : Int) := by
 unfold ints; rw [List.mem_map]
 constructor
 · rintro ⟨i, hi, rfl⟩
   have := List.mem_range.1 hi; omega
 · rintro ⟨h1, h2⟩
   exact ⟨(x - 1).toNat, List.mem_range.2 (by omega), by omega⟩
theorem BY (n : Nat) : (ints n).Pairwise (· < ·) := by
 unfold ints; rw [List.pairwise_map]; exact List.pairwise_lt_range.imp fun h => by omega
theorem Eb : ∀ (k d : Nat), ∃ r, ints (k + d) = ints k ++ r
 | k, 0 => ⟨[], by simp⟩
 | k, d + 1 => by
   obtain ⟨r, h⟩ := Eb k d; exact ⟨r ++ [((k + d + 1 : Nat) : Int)], by rw [show k + (d + 1) = (k + d) + 1 by omega, Ga, h, List.append_assoc]⟩
theorem KW (a b : List Int) : aO (a ++ b) = aO a ++ aO b := by simp [aO]
theorem I4 (a : List Int) (n : Nat) : aO (a.take n) = (aO a).take n := by simp [aO, List.map_take]
theorem oC (a : List Int) : aZ (aO a) = a := by simp [aZ, aO, Function.comp_def]
def gi (list : aG) (xs : List (Int × Unit)) (ms : List Int) (s : Int) : Bool := (!hasB list s && decide (s ∈ aZ xs)) || decide (s ∈ ms)
def jN (list : aG) (xs : List (Int × Unit)) (ms : List Int) : List Int := ((ints 60).filter (gi list xs ms)).take 20
abbrev Uc : Type := aG × Int × Int × Int × Int × Int × (List (Int × Unit)) × Int × Int × Int × Int × Int × (List (Int × Unit)) × Int × Int × Int × Int × Int × (List (Int × Unit)) × (List (Int × Unit)) × Int × Unit
theorem KX (t0 t1 t2 t3 t4 : Int) (xs : List (Int × Unit)) (list : aG) (ms : List Int) (h : list.length ≤ 1048576) (hx : xs.length ≤ 1048576) (hm : mV list t2 = some (aO ms, ())) (hms : ms.length ≤ 20) :
   gI t0 t1 t2 t3 t4 xs list = some (t0, t1, t2, t3, t4, aO (jN list xs ms), ()) := by
 have Ry : (aO ms).length ≤ 1048576 := by rw [bQ]; omega
 obtain ⟨e, he, rfl⟩ := dV (round := jT) (x := (list, t0, t1, t2, t3, t4, xs, (0 : Int), (0 : Int), (0 : Int), (0 : Int), (0 : Int), [], t0, t1, t2, t3, t4, [], aO ms, ((0 + 1 : Nat) : Int), ())) 60
   (fun k x => x = (list, t0, t1, t2, t3, t4, xs, (0 : Int), (0 : Int), (0 : Int), (0 : Int), (0 : Int), [], t0, t1, t2, t3, t4, aO ((ints k).filter (gi list xs ms)), aO ms, ((k + 1 : Nat) : Int), ()) ∧ ((ints k).filter (gi list xs ms)).length ≤ 20)
   (fun e => e = .inl ((0 : Int), (0 : Int), (0 : Int), (0 : Int), (0 : Int), [], t0, t1, t2, t3, t4, aO (jN list xs ms), ())) (by
     rintro x ⟨rfl, g⟩
     refine ⟨_, ?_, rfl⟩; simp only [jT, om, ai (show ¬ ((60 + 1 : Nat) : Int) ≤ (60 : Int) by omega), cond_false]; unfold jN; rw [List.take_of_length_le g]) (by
     rintro k x hk ⟨rfl, g⟩
     have hle : ((k + 1 : Nat) : Int) ≤ (60 : Int) := by omega
     have hl := bQ ((ints k).filter (gi list xs ms))
     by_cases Ub : ((List.length (aO ((ints k).filter (gi list xs ms))) : Nat) : Int) < 20
     case neg =>
       refine .inl ⟨_, ?_, rfl⟩; simp only [jT, om, af hle, ai Ub, cond_true, cond_false]; have : jN list xs ms = (ints k).filter (gi list xs ms) := by
         unfold jN; obtain ⟨r, hr⟩ := Eb k (60 - k); rw [show k + (60 - k) = 60 by omega] at hr; rw [hr, List.filter_append]; exact List.take_left' (by omega)
       rw [this]
     have Gb : (ints (k + 1)).filter (gi list xs ms) = (ints k).filter (gi list xs ms) ++ (if gi list xs ms ((k + 1 : Nat) : Int) then [((k + 1 : Nat) : Int)] else []) := by
       rw [Ga, List.filter_append]; rw [List.filter_cons, List.filter_nil]
     have ajq := G4 ((k + 1 : Nat) : Int) xs hx; have adj := G4 ((k + 1 : Nat) : Int) (aO ms) Ry; rw [oC] at adj; have hb : Nat.ble (((aO ((ints k).filter (gi list xs ms))).length + 1) * 8) lim = true := aF (by unfold lim; omega); have hsw := aC (show k + 1 < 4611686018427387904 by omega); simp only [jT, om, af hle, af Ub, cond_true, oR list _ h, Option.bind_some, wH, ajq, adj, hb, hsw]; have yes : gi list xs ms ((k + 1 : Nat) : Int) = true → ∃ x' : Uc, x' = (list, t0, t1, t2, t3, t4, xs, (0 : Int), (0 : Int), (0 : Int), (0 : Int), (0 : Int), [], t0, t1, t2, t3, t4, aO ((ints k).filter (gi list xs ms)) ++ [(((k + 1 : Nat) : Int), ())], aO ms, ((k + 1 + 1 : Nat) : Int), ()) ∧
         (x' = (list, t0, t1, t2, t3, t4, xs, (0 : Int), (0 : Int), (0 : Int), (0 : Int), (0 : Int), [], t0, t1, t2, t3, t4, aO ((ints (k + 1)).filter (gi list xs ms)), aO ms, ((k + 1 + 1 : Nat) : Int), ()) ∧ ((ints (k + 1)).filter (gi list xs ms)).length ≤ 20) := by
       intro hp; refine ⟨_, rfl, ?_, ?_⟩
       · rw [Gb, hp, if_pos rfl, KW]; rfl
       · rw [Gb, hp, if_pos rfl, List.length_append]; simp; omega
     have no : gi list xs ms ((k + 1 : Nat) : Int) = false → ∃ x' : Uc, x' = (list, t0, t1, t2, t3, t4, xs, (0 : Int), (0 : Int), (0 : Int), (0 : Int), (0 : Int), [], t0, t1, t2, t3, t4, aO ((ints k).filter (gi list xs ms)), aO ms, ((k + 1 + 1 : Nat) : Int), ()) ∧
         (x' = (list, t0, t1, t2, t3, t4, xs, (0 : Int), (0 : Int), (0 : Int), (0 : Int), (0 : Int), [], t0, t1, t2, t3, t4, aO ((ints (k + 1)).filter (gi list xs ms)), aO ms, ((k + 1 + 1 : Nat) : Int), ()) ∧ ((ints (k + 1)).filter (gi list xs ms)).length ≤ 20) := by
       intro hp; refine ⟨_, rfl, ?_, ?_⟩
       · rw [Gb, hp]; simp
       · rw [Gb, hp]; simp; omega
     have G7 : gi list xs ms ((k + 1 : Nat) : Int) = ((!(dm list ((k + 1 : Nat) : Int)).isSome && decide (((k + 1 : Nat) : Int) ∈ aZ xs)) || decide (((k + 1 : Nat) : Int) ∈ ms)) := rfl
     cases c1 : (dm list ((k + 1 : Nat) : Int)).isSome
     · cases c2 : decide (((k + 1 : Nat) : Int) ∈ aZ xs)
       · cases c3 : decide (((k + 1 : Nat) : Int) ∈ ms)
         · obtain ⟨x', g1, g2⟩ := no (by rw [G7, c1, c2, c3]; rfl); exact .inr ⟨x', by rw [g1]; rfl, g2⟩
         · obtain ⟨x', g1, g2⟩ := yes (by rw [G7, c1, c2, c3]; rfl); exact .inr ⟨x', by rw [g1]; rfl, g2⟩
       · obtain ⟨x', g1, g2⟩ := yes (by rw [G7, c1, c2]; rfl); exact .inr ⟨x', by rw [g1]; rfl, g2⟩
     · cases c3 : decide (((k + 1 : Nat) : Int) ∈ ms)
       · obtain ⟨x', g1, g2⟩ := no (by rw [G7, c1, c3]; rfl); exact .inr ⟨x', by rw [g1]; rfl, g2⟩
       · obtain ⟨x', g1, g2⟩ := yes (by rw [G7, c1, c3]; rfl); exact .inr ⟨x', by rw [g1]; rfl, g2⟩) ⟨rfl, by simp [ints]⟩
 unfold gI; rw [hm]; simp only [Option.bind_some]; rw [show (1 : Int) = ((0 + 1 : Nat) : Int) from rfl, he]; rfl
def pQ (list : aG) (s : Int) : Bool := !hasB list s && (decide (1 ≤ s) && decide (s ≤ 60))
theorem KY (t0 t1 t2 t3 t4 : Int) (xs : List (Int × Unit)) (list : aG) (ms : List Int) (h : list.length ≤ 1048576) (hx : xs.length ≤ 1048576) (hm : m8 list t2 = some (aO ms, ())) (hms : ms.length ≤ 20) (hmp : ∀ s ∈ ms, 1 ≤ s ∧ s ≤ 60 ∧ hasB list s = false) :
   uF t0 t1 t2 t3 t4 xs list = some (t0, t1, t2, t3, t4, aO (jN list xs ms), ()) := by
 have LY := bd (round := jU) (e := .inl ((0 : Int), (0 : Int), (0 : Int), (0 : Int), (0 : Int), [], t0, t1, t2, t3, t4, xs, aO (ms ++ (aZ xs).filter (pQ list)), ())) xs.length
   (fun k => (list, (0 : Int), (0 : Int), (0 : Int), (0 : Int), (0 : Int), [], t0, t1, t2, t3, t4, xs, aO (ms ++ (aZ (xs.take k)).filter (pQ list)), xs, ((List.length xs : Nat) : Int), ((k : Nat) : Int), ())) (by
     simp only [jU, sA, az, cond_false, List.take_length]) (fun k hk => by
     have hfl : ((aZ (xs.take k)).filter (pQ list)).length ≤ 1048576 := by
       have h1 := List.length_filter_le (pQ list) (aZ (xs.take k)); have h2 := iN (xs.take k); rw [List.length_take] at h2; omega
     have hl := bQ (ms ++ (aZ (xs.take k)).filter (pQ list)); rw [List.length_append] at hl; have Gb : (aZ (xs.take (k + 1))).filter (pQ list) = (aZ (xs.take k)).filter (pQ list) ++ (if pQ list xs[k].1 then [xs[k].1] else []) := by
       rw [List.take_succ_eq_append_getElem hk]; unfold aZ; rw [List.map_append, List.filter_append, List.map_cons, List.map_nil, List.filter_cons, List.filter_nil]
     have G7 : pQ list xs[k].1 = (!(dm list xs[k].1).isSome && (decide (1 ≤ xs[k].1) && decide (xs[k].1 ≤ 60))) := rfl; simp only [jU, sA, aw hk, ak, cond_true, au, List.getElem?_eq_getElem hk, Option.bind_some, sj list _ h, wH, sB, aF (show ((aO (ms ++ (aZ (xs.take k)).filter (pQ list))).length + 1) * 8 ≤ lim by unfold lim; omega), aC (show k < 4611686018427387904 by omega), Gb]
     cases c1 : (dm list xs[k].1).isSome
     · cases c2 : (decide (1 ≤ xs[k].1) && decide (xs[k].1 ≤ 60))
       · rw [G7, c1, c2]; simp
       · rw [G7, c1, c2]; simp [aO]
     · rw [G7, c1]; simp)
 have LY : aA jU (list, (0 : Int), (0 : Int), (0 : Int), (0 : Int), (0 : Int), [], t0, t1, t2, t3, t4, xs, aO (ms ++ (aZ (xs.take 0)).filter (pQ list)), xs, ((List.length xs : Nat) : Int), (0 : Int), ()) = _ := LY; rw [show ms ++ (aZ (xs.take 0)).filter (pQ list) = ms by simp [aZ]] at LY; have c2 : cA t0 t1 t2 t3 t4 xs = some (t0, t1, t2, t3, t4, xs, ()) := by
   unfold cA; rw [n5 xs hx]; rfl
 have hwl : (ms ++ (aZ xs).filter (pQ list)).length ≤ 1048576 + 20 := by
   rw [List.length_append]; have h1 := List.length_filter_le (pQ list) (aZ xs); have h2 := iN xs; omega
 generalize hW : ms ++ (aZ xs).filter (pQ list) = W at *; have adk : DD (aO W) = some (aO (W.mergeSort fun x y => decide (x ≤ y)), ()) := by
   unfold DD; rw [aF (show (aO W).length ≤ lim by rw [bQ]; unfold lim; omega), oC]; rfl
 have Ud : mN (aO (W.mergeSort fun x y => decide (x ≤ y))) = some (aO (Lib.compact (W.mergeSort fun x y => decide (x ≤ y))), ()) := by
   unfold mN; rw [aF (show (aO (W.mergeSort fun x y => decide (x ≤ y))).length ≤ lim by rw [bQ, List.length_mergeSort]; unfold lim; omega), oC]; rfl
 have hC : Lib.compact (W.mergeSort fun x y => decide (x ≤ y)) = (ints 60).filter (gi list xs ms) := by
   refine D9 _ _ (Ea _ (SK W)) ((BY 60).filter _) fun z => ?_
   rw [I3, QF, ← hW, List.mem_append, List.mem_filter, List.mem_filter, QG]; unfold pQ gi; simp only [Bool.and_eq_true, Bool.or_eq_true, decide_eq_true_eq, Bool.not_eq_true']
   constructor
   · rintro (h1 | ⟨h1, h2, h3, h4⟩)
     · exact ⟨⟨(hmp z h1).1, (hmp z h1).2.1⟩, .inr h1⟩
     · exact ⟨⟨h3, h4⟩, .inl ⟨h2, h1⟩⟩
   · rintro ⟨⟨h3, h4⟩, ⟨h2, h1⟩ | h1⟩
     · exact .inr ⟨h1, h2, h3, h4⟩
     · exact .inl h1
 rw [hC] at Ud; have hCl : ((ints 60).filter (gi list xs ms)).length ≤ 60 := Nat.le_trans (List.length_filter_le _ _) (by simp [ints]); have ajr : (if (20 : Int) < ((List.length (aO ((ints 60).filter (gi list xs ms))) : Nat) : Int) then (20 : Int) else ((List.length (aO ((ints 60).filter (gi list xs ms))) : Nat) : Int)) = ((min 20 ((ints 60).filter (gi list xs ms)).length : Nat) : Int) := by
   rw [bQ]
   split <;> omega
 have adl : List.take (min 20 ((ints 60).filter (gi list xs ms)).length) (aO ((ints 60).filter (gi list xs ms))) = aO (jN list xs ms) := by
   unfold jN; rw [I4]
   by_cases Ub : 20 ≤ ((ints 60).filter (gi list xs ms)).length
   · rw [Nat.min_eq_left Ub]
   · rw [Nat.min_eq_right (by omega), List.take_of_length_le (by rw [bQ]; omega), List.take_of_length_le (by rw [bQ]; omega)]
 have oT := n5 (aO (jN list xs ms)) (by rw [bQ]; unfold jN; rw [List.length_take]; omega); unfold uF; rw [c2, hm]; simp only [Option.bind_some]; rw [LY]; simp only [gG, adk, Ud, Option.bind_some, ajr, ak, cond_true, au, List.drop_zero, adl, oT, af (show ((min 20 ((ints 60).filter (gi list xs ms)).length : Nat) : Int) ≤ ((List.length (aO ((ints 60).filter (gi list xs ms))) : Nat) : Int) by rw [bQ]; omega)]
end Go.TM
set_option linter.unusedSimpArgs false
set_option linter.unusedVariables false
namespace Go.TM
open Go
theorem LZ {xs : aG} {s : Int} : hasB xs s = true ↔ ∃ r ∈ xs, r.1 = s := by
 unfold hasB dm; rw [List.find?_isSome]; simp only [decide_eq_true_eq]
theorem xa {r m : cu} : {xs : aG} → r ∈ xs → r ∈ lu xs m
 | [], h => by cases h
 | x :: xs, h => by
   unfold lu
   split
   · rcases List.mem_cons.1 h with rfl | h
     · exact List.mem_cons_self
     · exact List.mem_cons_of_mem _ (xa h)
   · split
     · exact h
     · exact List.mem_cons_of_mem _ h
theorem Ad {xs ys : aG} (hx : xs.length ≤ 1048576) (hy : ys.length ≤ 1048576) (h : ∀ r ∈ xs, ∃ q ∈ ys, q.1 = r.1) : bE xs ≤ bE ys := by
 obtain ⟨_, a1, _⟩ := (rC xs hx).2.2; obtain ⟨_, _, b2⟩ := (rC ys hy).2.2
 by_cases bN : bE ys < bE xs
 · have h1 := a1 _ bN; obtain ⟨r, hr, e⟩ := LZ.1 h1; obtain ⟨q, hq, e2⟩ := h r hr; have : hasB ys ((bE ys + 1 : Nat) : Int) = true := LZ.2 ⟨q, hq, e2.trans e⟩; unfold hasB at this; rw [b2] at this
   cases this
 · omega
def bq (xs : aG) (fs : aG) : aG := fs.foldl lu xs
theorem qk : (fs : aG) → {xs : aG} → iU xs xs.length → (∀ f ∈ fs, lD f) → iU (bq xs fs) (bq xs fs).length
 | [], _, h, _ => h
 | f :: fs, _, h, hf => qk fs (yK h (hf f List.mem_cons_self)) fun g hg => hf g (List.mem_cons_of_mem _ hg)
theorem wI {r : cu} : (fs : aG) → {xs : aG} → r ∈ xs → r ∈ bq xs fs
 | [], _, h => h
 | _ :: fs, _, h => wI fs (xa h)
theorem yL {r : cu} : (fs : aG) → {xs : aG} → r ∈ bq xs fs → r ∈ fs ∨ r ∈ xs
 | [], _, h => .inr h
 | f :: fs, xs, h => by
   rcases yL fs h with h | h
   · exact .inl (List.mem_cons_of_mem _ h)
   · rcases s9 h with rfl | h
     · exact .inl List.mem_cons_self
     · exact .inr h
theorem KZ {c2 d : Int} {lv : bV} {tx : List (ByteArray × Unit)} {k j : Nat} (hc : 0 ≤ c2 ∧ c2 + ((k : Nat) : Int) ≤ 60) (hd : 1 ≤ d ∧ d ≤ 5) (hk : k ≤ tx.length) (hs : jd tx tx.length) (hj : j < k) : lD (qj c2 d lv tx j) := by
 have h1 : j < tx.length := by omega
 have Ro : (tx.getD j (ByteArray.empty, ())).1 = tx[j].1 := by rw [List.getD_eq_getElem?_getD, List.getElem?_eq_getElem h1, Option.getD_some]
 refine ⟨⟨?_, ?_⟩, hd, ?_, ?_⟩
 · show 1 ≤ c2 + ((j + 1 : Nat) : Int); omega
 · show c2 + ((j + 1 : Nat) : Int) ≤ 60; omega
 · show 1 ≤ (bif decide (j < lv.length) && decide ((lv.getD j ((0 : Int), ())).1 = 2) then (2 : Int) else 1) ∧ (bif decide (j < lv.length) && decide ((lv.getD j ((0 : Int), ())).1 = 2) then (2 : Int) else 1) ≤ 2
   cases decide (j < lv.length) && decide ((lv.getD j ((0 : Int), ())).1 = 2) <;> decide
 · show ByteArray.size (tx.getD j (ByteArray.empty, ())).1 ≤ 60; rw [Ro]; exact hs j h1 h1
theorem BZ {c2 d : Int} {lv : bV} {tx : List (ByteArray × Unit)} {k : Nat} (hc : 0 ≤ c2 ∧ c2 + ((k : Nat) : Int) ≤ 60) (hd : 1 ≤ d ∧ d ≤ 5) (hk : k ≤ tx.length) (hs : jd tx tx.length) : ∀ f ∈ cK c2 d lv tx k, lD f := by
 intro f hf; unfold cK at hf; obtain ⟨j, hj, rfl⟩ := List.mem_map.1 hf; exact KZ hc hd hk hs (List.mem_range.1 hj)
def sm (t : jZ) (xs : aG) : aG := xs.filter fun r => decide (r.1 ∈ aZ t.2.2.2.2.2.1)
theorem QH (t : jZ) (xs : aG) (h : xs.length ≤ 1048576) (hw : t.2.2.2.2.2.1.length ≤ 1048576) : wY t.1 t.2.1 t.2.2.1 t.2.2.2.1 t.2.2.2.2.1 t.2.2.2.2.2.1 xs = some (sm t xs, ()) ∧ w5 t.1 t.2.1 t.2.2.1 t.2.2.2.1 t.2.2.2.2.1 t.2.2.2.2.2.1 xs = some (sm t xs, ()) := by
 have hlen : ∀ k, ((xs.take k).filter fun r => decide (r.1 ∈ aZ t.2.2.2.2.2.1)).length ≤ k := fun k => Nat.le_trans (List.length_filter_le _ _) (List.length_take_le _ _)
 constructor
 · have hl := bd (round := kX) (e := .inl (sm t xs, ())) xs.length (fun k => (xs, t.1, t.2.1, t.2.2.1, t.2.2.2.1, t.2.2.2.2.1, t.2.2.2.2.2.1, (xs.take k).filter (fun r => decide (r.1 ∈ aZ t.2.2.2.2.2.1)), ((k : Nat) : Int), ())) (by
     simp only [kX, ub, az, cond_false, List.take_length, sm]) (fun k hk => by
     have kQ := hlen k; simp only [kX, ub, aw hk, ak, cond_true, au, List.getElem?_eq_getElem hk, Option.bind_some, G4 _ _ hw, aF (show (((xs.take k).filter fun r => decide (r.1 ∈ aZ t.2.2.2.2.2.1)).length + 1) * 40 ≤ lim by unfold lim; omega), aC (show k < 4611686018427387904 by omega)]; rw [List.take_succ_eq_append_getElem hk, List.filter_append]
     cases hp : decide (xs[k].1 ∈ aZ t.2.2.2.2.2.1)
     · rw [List.filter_cons_of_neg (by rw [hp]; simp)]; simp
     · rw [List.filter_cons_of_pos (by rw [hp])]; rfl)
   have hl : aA kX (xs, t.1, t.2.1, t.2.2.1, t.2.2.2.1, t.2.2.2.2.1, t.2.2.2.2.2.1, [], (0 : Int), ()) = _ := hl; unfold wY; rw [hl]; rfl
 · have hl := bd (round := kZ) (e := .inl (sm t xs, ())) xs.length (fun k => (t.1, t.2.1, t.2.2.1, t.2.2.2.1, t.2.2.2.2.1, t.2.2.2.2.2.1, (xs.take k).filter (fun r => decide (r.1 ∈ aZ t.2.2.2.2.2.1)), xs, ((List.length xs : Nat) : Int), ((k : Nat) : Int), ())) (by
     simp only [kZ, uE, az, cond_false, List.take_length, sm]) (fun k hk => by
     have kQ := hlen k; simp only [kZ, uE, aw hk, ak, cond_true, au, List.getElem?_eq_getElem hk, Option.bind_some, G5 _ _ hw, aF (show (((xs.take k).filter fun r => decide (r.1 ∈ aZ t.2.2.2.2.2.1)).length + 1) * 40 ≤ lim by unfold lim; omega), aC (show k < 4611686018427387904 by omega)]; rw [List.take_succ_eq_append_getElem hk, List.filter_append]
     cases hp : decide (xs[k].1 ∈ aZ t.2.2.2.2.2.1)
     · rw [List.filter_cons_of_neg (by rw [hp]; simp)]; simp
     · rw [List.filter_cons_of_pos (by rw [hp])]; rfl)
   have hl : aA kZ (t.1, t.2.1, t.2.2.1, t.2.2.2.1, t.2.2.2.2.1, t.2.2.2.2.2.1, [], xs, ((List.length xs : Nat) : Int), (0 : Int), ()) = _ := hl; unfold w5; rw [hl]; rfl
theorem Ec {t : jZ} {xs : aG} {r : cu} (h : r ∈ sm t xs) : r ∈ xs := (List.mem_filter.1 h).1
theorem Ed (t : jZ) (xs : aG) : (sm t xs).length ≤ xs.length := List.length_filter_le _ _
end Go.TM
