/- Sizes, copies, sameness: what the laws' own helping functions answer. -/
import Derived.Test.YtlgnmloddedbaaaGreatBF2
set_option linter.unusedSimpArgs false
set_option linter.unusedVariables false
namespace Go.TM
open Go
def F3 (_ : Int × Unit) : Nat := 0
def oD (x : nU) : Nat := ByteArray.size x.2.2.2.1
def Wf (x : ByteArray × Unit) : Nat := ByteArray.size x.1
end Go.TM
set_option linter.unusedSimpArgs false
set_option linter.unusedVariables false
namespace Go.TM
open Go
end Go.TM
set_option linter.unusedSimpArgs false
set_option linter.unusedVariables false
namespace Go.TM
open Go
end Go.TM
set_option linter.unusedSimpArgs false
set_option linter.unusedVariables false
namespace Go.TM
open Go
theorem nM (a b c : Int) : bu a b c = some (decide (b ≤ a) && decide (a ≤ c), ()) := by
 unfold bu
 cases decide (b ≤ a) <;> rfl
theorem rB (a b c : Int) : bC a b c = some (decide (b ≤ a) && decide (a ≤ c), ()) := by
 unfold bC
 cases decide (b ≤ a) <;> rfl
theorem py (a : Int) : ik a = some (decide (1 ≤ a) && decide (a ≤ 5), ()) := by
 unfold ik; rw [rB]; rfl
def Be {A B : Type} : Sum A (Bool × Unit) → Sum B (Bool × Unit) → Prop
 | .inl _, .inl _ => True
 | .inr a, .inr b => a.1 = b.1
 | _, _ => False
theorem pz {k : Nat} (h0 : 0 < k) (h : k < 4611686018427387904) : IntKind.i64.wrap (((k : Nat) : Int) - (1 : Int)) = (((k - 1 : Nat)) : Int) := by
 rw [fO] <;> omega
theorem Mh (c : Int) (xs : List (Int × Unit)) (h : xs.length ≤ 1048576) :
   ∃ e f, aE ew (c, xs, (0 : Int), ()) = some e ∧ aE j9 (c, xs, xs, ((List.length xs : Nat) : Int), (0 : Int), ()) = some f ∧ Be e f := by
 refine mb xs.length (fun k x y => x = (c, xs, ((k : Nat) : Int), ()) ∧ y = (c, xs, xs, ((List.length xs : Nat) : Int), ((k : Nat) : Int), ())) Be ?_ ⟨rfl, rfl⟩
 rintro k x y hk ⟨rfl, rfl⟩
 by_cases bX : k < xs.length
 · simp only [ew, j6, j9, qa, ax bX, ak, cond_true, au, List.getElem?_eq_getElem bX, Option.bind_some, nM, py, aG (show k < 4611686018427387904 by omega)]
   cases (decide (1 ≤ xs[k].1) && decide (xs[k].1 ≤ 5))
   · exact .inl ⟨.inr (false, ()), .inr (false, ()), rfl, rfl, rfl⟩
   · by_cases h0 : 0 < k
     · have hp : k - 1 < xs.length := by omega
       rw [pz h0 (by omega)]; simp only [af (show (0 : Int) < ((k : Nat) : Int) by omega), Bool.not_true, cond_false, cond_true, ak, au, List.getElem?_eq_getElem hp, Option.bind_some]
       cases decide (xs[k].1 ≤ xs[k - 1].1)
       · exact .inr ⟨bX, _, _, rfl, rfl, rfl, rfl⟩
       · exact .inl ⟨.inr (false, ()), .inr (false, ()), rfl, rfl, rfl⟩
     · have : k = 0 := by omega
       subst this; simp only [aj (show ¬ (0 : Int) < ((0 : Nat) : Int) by omega), Bool.not_true, cond_false]; exact .inr ⟨bX, _, _, rfl, rfl, rfl, rfl⟩
 · have : k = xs.length := by omega
   subst this; exact .inl ⟨.inl (), .inl (), by simp only [ew, j6, aD, cond_false], by simp only [j9, qa, aD, cond_false], trivial⟩
theorem zM (c : Int) (xs : List (Int × Unit)) (h : xs.length ≤ 1048576) : ∃ b, cG c xs = some (b, ()) ∧ dV c xs = some (b, ()) ∧ (b = true → 1 ≤ xs.length ∧ xs.length ≤ 5) := by
 obtain ⟨e, f, h1, h2, h3⟩ := Mh c xs h; unfold cG dV; simp only [nM, rB, Option.bind_some, h1, h2]
 cases (decide (1 ≤ c) && decide (c ≤ 9))
 · exact ⟨false, rfl, rfl, fun h => by cases h⟩
 cases hb : (decide (1 ≤ ((List.length xs : Nat) : Int)) && decide (((List.length xs : Nat) : Int) ≤ 5))
 · exact ⟨false, rfl, rfl, fun h => by cases h⟩
 have hl : 1 ≤ xs.length ∧ xs.length ≤ 5 := by
   rw [Bool.and_eq_true, decide_eq_true_eq, decide_eq_true_eq] at hb; omega
 cases e with
 | inl e => cases f with
   | inl f => exact ⟨true, rfl, rfl, fun _ => hl⟩
   | inr f => exact h3.elim
 | inr e => cases f with
   | inl f => exact h3.elim
   | inr f => exact ⟨e.1, rfl, by rw [show e.1 = f.1 from h3]; rfl, fun _ => hl⟩
end Go.TM
set_option linter.unusedSimpArgs false
set_option linter.unusedVariables false
namespace Go.TM
open Go
def RG (e : Sum Unit (Bool × Unit)) (f : Sum Unit (Int × Unit)) : Prop := ∃ b, (e = .inl () ∧ f = .inl () ∧ b = false) ∨ (e = .inr (true, ()) ∧ (∃ k : Nat, f = .inr (((k : Nat) : Int), ())) ∧ b = true)
theorem QB (d : Int) (xs : List (Int × Unit)) (h : xs.length ≤ 1048576) :
   ∃ e f, aE cD (xs, d, (0 : Int), ()) = some e ∧ aE bm (xs, d, ((List.length xs : Nat) : Int), (0 : Int), ()) = some f ∧ RG e f := by
 refine mb xs.length (fun k x y => x = (xs, d, ((k : Nat) : Int), ()) ∧ y = (xs, d, ((List.length xs : Nat) : Int), ((k : Nat) : Int), ())) RG ?_ ⟨rfl, rfl⟩
 rintro k x y hk ⟨rfl, rfl⟩
 by_cases bX : k < xs.length
 · simp only [cD, ie, bm, dy, ax bX, ak, cond_true, au, List.getElem?_eq_getElem bX, Option.bind_some, aG (show k < 4611686018427387904 by omega)]
   by_cases hd : xs[k].1 = d
   · rw [af hd, af hd.symm]; exact .inl ⟨.inr (true, ()), .inr (((k : Nat) : Int), ()), rfl, rfl, true, .inr ⟨rfl, ⟨k, rfl⟩, rfl⟩⟩
   · rw [aj hd, aj (fun e => hd e.symm)]; exact .inr ⟨bX, _, _, rfl, rfl, rfl, rfl⟩
 · have : k = xs.length := by omega
   subst this; exact .inl ⟨.inl (), .inl (), by simp only [cD, ie, aD, cond_false], by simp only [bm, dy, aD, cond_false], false, .inl ⟨rfl, rfl, rfl⟩⟩
theorem rC (d : Int) (xs : List (Int × Unit)) (h : xs.length ≤ 1048576) : ∃ b, dN xs d = some (b, ()) ∧ ch xs d = some (b, ()) := by
 obtain ⟨e, f, h1, h2, b, h3⟩ := QB d xs h; unfold dN ch iI; rw [h1, h2]; rcases h3 with ⟨rfl, rfl, rfl⟩ | ⟨rfl, ⟨k, rfl⟩, rfl⟩
 · exact ⟨false, rfl, rfl⟩
 · refine ⟨true, rfl, ?_⟩; simp only [cg, Option.bind_some, ak]
end Go.TM
set_option linter.unusedSimpArgs false
set_option linter.unusedVariables false
namespace Go.TM
open Go
def OQ (t : Int × Int × Int × Int × Int × (List (Int × Unit)) × Unit) : Sum Unit (Bool × Unit) → Sum (Int × Int × Int × Int × Int × (List (Int × Unit)) × Unit) (Bool × Unit) → Prop
 | .inl _, .inl z => z = t
 | .inr a, .inr b => a.1 = false ∧ b.1 = false
 | _, _ => False
theorem JB (c0 c1 c2 c3 c4 : Int) (xs : List (Int × Unit)) (h : xs.length ≤ 1048576) :
   ∃ e f, aE dJ (c0, c1, c2, c3, c4, xs, (0 : Int), ()) = some e ∧ aE jl (c0, c1, c2, c3, c4, xs, xs, ((List.length xs : Nat) : Int), (0 : Int), ()) = some f ∧ OQ (c0, c1, c2, c3, c4, xs, ()) e f := by
 refine mb xs.length (fun k x y => x = (c0, c1, c2, c3, c4, xs, ((k : Nat) : Int), ()) ∧ y = (c0, c1, c2, c3, c4, xs, xs, ((List.length xs : Nat) : Int), ((k : Nat) : Int), ())) (OQ (c0, c1, c2, c3, c4, xs, ())) ?_ ⟨rfl, rfl⟩
 rintro k x y hk ⟨rfl, rfl⟩
 by_cases bX : k < xs.length
 · simp only [dJ, jh, jl, oh, ax bX, ak, cond_true, au, List.getElem?_eq_getElem bX, Option.bind_some, nM, rB, aG (show k < 4611686018427387904 by omega)]
   cases (decide (1 ≤ xs[k].1) && decide (xs[k].1 ≤ c2))
   · exact .inl ⟨.inr (false, ()), .inr (false, ()), rfl, rfl, rfl, rfl⟩
   · by_cases h0 : 0 < k
     · have hp : k - 1 < xs.length := by omega
       rw [pz h0 (by omega)]; simp only [af (show (0 : Int) < ((k : Nat) : Int) by omega), Bool.not_true, cond_false, cond_true, ak, au, List.getElem?_eq_getElem hp, Option.bind_some]
       cases decide (xs[k].1 ≤ xs[k - 1].1)
       · exact .inr ⟨bX, _, _, rfl, rfl, rfl, rfl⟩
       · exact .inl ⟨.inr (false, ()), .inr (false, ()), rfl, rfl, rfl, rfl⟩
     · have : k = 0 := by omega
       subst this; simp only [aj (show ¬ (0 : Int) < ((0 : Nat) : Int) by omega), Bool.not_true, cond_false]; exact .inr ⟨bX, _, _, rfl, rfl, rfl, rfl⟩
 · have : k = xs.length := by omega
   subst this; exact .inl ⟨.inl (), .inl (c0, c1, c2, c3, c4, xs, ()), by simp only [dJ, jh, aD, cond_false], by simp only [jl, oh, aD, cond_false], rfl⟩
theorem tO (c0 c1 c2 c3 c4 : Int) (xs : List (Int × Unit)) (h : xs.length ≤ 1048576) : ∃ b, cM c0 c1 c2 c3 c4 xs = some (b, ()) ∧ eV c0 c1 c2 c3 c4 xs = some (b, ()) ∧ (b = true → 0 ≤ c2 ∧ c2 ≤ 60 ∧ 0 ≤ c3 ∧ c3 ≤ c2 ∧ xs.length ≤ 20 ∧ (∀ y ∈ [c0, c1], 1 ≤ y)) := by
 obtain ⟨e, f, h1, h2, h3⟩ := JB c0 c1 c2 c3 c4 xs h; unfold cM eV; simp only [nM, rB, Option.bind_some, h1, h2]
 cases q0 : (decide (1 ≤ c0) && decide (c0 ≤ 9))
 · exact ⟨false, rfl, rfl, fun h => by cases h⟩
 cases q1 : (decide (1 ≤ c1) && decide (c1 ≤ 1000000000))
 · exact ⟨false, rfl, rfl, fun h => by cases h⟩
 cases q2 : (decide (0 ≤ c2) && decide (c2 ≤ 60))
 · exact ⟨false, rfl, rfl, fun h => by cases h⟩
 cases e with
 | inl e => cases f with
   | inl f =>
     have h3 : f = (c0, c1, c2, c3, c4, xs, ()) := h3; subst h3; simp only [cg, Option.bind_some, rB, Bool.not_true, cond_false]
     cases q3 : (decide (0 ≤ c3) && decide (c3 ≤ c2))
     · exact ⟨false, rfl, rfl, fun h => by cases h⟩
     cases (decide (0 ≤ c4) && decide (c4 ≤ 5))
     · exact ⟨false, rfl, rfl, fun h => by cases h⟩
     by_cases hl : ((List.length xs : Nat) : Int) ≤ 20
     · rw [af hl, aj (show ¬ (20 : Int) < ((List.length xs : Nat) : Int) by omega)]; refine ⟨true, rfl, rfl, fun _ => ?_⟩; rw [Bool.and_eq_true, decide_eq_true_eq, decide_eq_true_eq] at q0 q1 q2 q3; refine ⟨q2.1, q2.2, q3.1, q3.2, by omega, fun y hy => ?_⟩; rcases List.mem_cons.1 hy with rfl | hy
       · exact q0.1
       · rcases List.mem_cons.1 hy with rfl | hy
         · exact q1.1
         · cases hy
     · rw [aj hl, af (show (20 : Int) < ((List.length xs : Nat) : Int) by omega)]; exact ⟨false, rfl, rfl, fun h => by cases h⟩
   | inr f => exact h3.elim
 | inr e => cases f with
   | inl f => exact h3.elim
   | inr f =>
     obtain ⟨e1, e2⟩ := (show e.1 = false ∧ f.1 = false from h3); refine ⟨false, ?_, by rw [← e2]; rfl, fun h => by cases h⟩
     cases (decide (0 ≤ c3) && decide (c3 ≤ c2))
     · rfl
     cases (decide (0 ≤ c4) && decide (c4 ≤ 5))
     · rfl
     cases decide ((20 : Int) < ((List.length xs : Nat) : Int))
     · show some (e.1, ()) = some (false, ()); rw [e1]
     · rfl
theorem mZ (xs : List (Int × Unit)) (h : xs.length ≤ 1048576) : eN xs = some (xs, ()) := by
 unfold eN; rw [aF (show (0 + xs.length) * 8 ≤ lim by unfold lim; omega)]; rfl
theorem fU (c0 c1 c2 c3 c4 : Int) (xs : List (Int × Unit)) (h : xs.length ≤ 1048576) : az c0 c1 c2 c3 c4 xs = some (c0, c1, c2, c3, c4, xs, ()) ∧ cm c0 c1 c2 c3 c4 xs = some (c0, c1, c2, c3, c4, xs, ()) := by
 constructor
 · unfold az; rw [aF (show (0 + xs.length) * 8 ≤ lim by unfold lim; omega)]; rfl
 · unfold cm; rw [mZ xs h]; rfl
def tP (c2 : Int) (xs : List (Int × Unit)) (n : Nat) : Prop := ∀ k (h : k < xs.length), k < n → 1 ≤ xs[k].1 ∧ xs[k].1 ≤ c2 ∧ ∀ h0 : 0 < k, xs[k - 1].1 < xs[k].1
def Vz (c0 c1 c2 c3 c4 : Int) (xs : List (Int × Unit)) : Prop := (1 ≤ c0 ∧ c0 ≤ 9) ∧ (1 ≤ c1 ∧ c1 ≤ 1000000000) ∧ (0 ≤ c2 ∧ c2 ≤ 60) ∧ (0 ≤ c3 ∧ c3 ≤ c2) ∧ (0 ≤ c4 ∧ c4 ≤ 5) ∧ xs.length ≤ 20 ∧ tP c2 xs xs.length
theorem Eu (c0 c1 c2 c3 c4 : Int) (xs : List (Int × Unit)) (h : xs.length ≤ 1048576) : ∃ b, cM c0 c1 c2 c3 c4 xs = some (b, ()) ∧ eV c0 c1 c2 c3 c4 xs = some (b, ()) ∧ (b = true ↔ Vz c0 c1 c2 c3 c4 xs) := by
 obtain ⟨b, h1, h2, _⟩ := tO c0 c1 c2 c3 c4 xs h; refine ⟨b, h1, h2, ?_⟩; obtain ⟨e, he, hq⟩ := ev (round := dJ) (x := (c0, c1, c2, c3, c4, xs, ((0 : Nat) : Int), ())) xs.length (fun k x => x = (c0, c1, c2, c3, c4, xs, ((k : Nat) : Int), ()) ∧ tP c2 xs k)
   (fun e => (e = .inl () ∧ tP c2 xs xs.length) ∨ (e = .inr (false, ()) ∧ ¬ tP c2 xs xs.length)) (by
     rintro x ⟨rfl, g⟩
     exact ⟨.inl (), by simp only [dJ, jh, aD, cond_false], .inl ⟨rfl, g⟩⟩) (by
     rintro k x bX ⟨rfl, g⟩
     simp only [dJ, jh, ax bX, ak, cond_true, au, List.getElem?_eq_getElem bX, Option.bind_some, nM, aG (show k < 4611686018427387904 by omega)]; have more : 1 ≤ xs[k].1 → xs[k].1 ≤ c2 → (∀ h0 : 0 < k, xs[k - 1].1 < xs[k].1) → tP c2 xs (k + 1) := by
       intro w1 w2 w3 j hj F2
       by_cases e : j < k
       · exact g j hj e
       · have : j = k := by omega
         subst this; exact ⟨w1, w2, w3⟩
     cases AW : (decide (1 ≤ xs[k].1) && decide (xs[k].1 ≤ c2))
     · refine .inl ⟨.inr (false, ()), rfl, .inr ⟨rfl, fun hn => ?_⟩⟩; obtain ⟨w1, w2, _⟩ := hn k bX bX; rw [af w1, af w2] at AW
       cases AW
     · rw [Bool.and_eq_true, decide_eq_true_eq, decide_eq_true_eq] at AW
       by_cases h0 : 0 < k
       · have hp : k - 1 < xs.length := by omega
         rw [pz h0 (by omega)]; simp only [af (show (0 : Int) < ((k : Nat) : Int) by omega), Bool.not_true, cond_false, cond_true, ak, au, List.getElem?_eq_getElem hp, Option.bind_some]
         by_cases hd : xs[k].1 ≤ xs[k - 1].1
         · rw [af hd]; refine .inl ⟨.inr (false, ()), rfl, .inr ⟨rfl, fun hn => ?_⟩⟩; have := (hn k bX bX).2.2 h0; omega
         · rw [aj hd]; exact .inr ⟨_, rfl, rfl, more AW.1 AW.2 (fun _ => by omega)⟩
       · have : k = 0 := by omega
         subst this; simp only [aj (show ¬ (0 : Int) < ((0 : Nat) : Int) by omega), Bool.not_true, cond_false]; exact .inr ⟨_, rfl, rfl, more AW.1 AW.2 (fun h0 => absurd h0 (Nat.lt_irrefl 0))⟩) ⟨rfl, fun j _ h => by omega⟩
 have he : aE dJ (c0, c1, c2, c3, c4, xs, (0 : Int), ()) = some e := he; unfold cM at h1; simp only [nM, Option.bind_some, he] at h1; have no : ∀ {p : Prop}, (some (false, ()) : Option (Bool × Unit)) = some (b, ()) → ¬ p → (b = true ↔ p) := by
   intro p e1 hp; injection e1 with e1; injection e1 with e1; subst e1; exact ⟨(fun h => by cases h), fun h => absurd h hp⟩
 have yes : ∀ {p : Prop}, (some (true, ()) : Option (Bool × Unit)) = some (b, ()) → p → (b = true ↔ p) := by
   intro p e1 hp; injection e1 with e1; injection e1 with e1; subst e1; exact ⟨fun _ => hp, fun _ => rfl⟩
 by_cases q0 : 1 ≤ c0 ∧ c0 ≤ 9
 case neg =>
   rw [show (decide (1 ≤ c0) && decide (c0 ≤ 9)) = false by rw [Bool.and_eq_false_iff, decide_eq_false_iff_not, decide_eq_false_iff_not]; omega] at h1; exact no h1 (fun h => q0 h.1)
 rw [af q0.1, af q0.2] at h1
 by_cases q1 : 1 ≤ c1 ∧ c1 ≤ 1000000000
 case neg =>
   rw [show (decide (1 ≤ c1) && decide (c1 ≤ 1000000000)) = false by rw [Bool.and_eq_false_iff, decide_eq_false_iff_not, decide_eq_false_iff_not]; omega] at h1; exact no h1 (fun h => q1 h.2.1)
 rw [af q1.1, af q1.2] at h1
 by_cases q2 : 0 ≤ c2 ∧ c2 ≤ 60
 case neg =>
   rw [show (decide (0 ≤ c2) && decide (c2 ≤ 60)) = false by rw [Bool.and_eq_false_iff, decide_eq_false_iff_not, decide_eq_false_iff_not]; omega] at h1; exact no h1 (fun h => q2 h.2.2.1)
 rw [af q2.1, af q2.2] at h1
 by_cases q3 : 0 ≤ c3 ∧ c3 ≤ c2
 case neg =>
   rw [show (decide (0 ≤ c3) && decide (c3 ≤ c2)) = false by rw [Bool.and_eq_false_iff, decide_eq_false_iff_not, decide_eq_false_iff_not]; omega] at h1; exact no h1 (fun h => q3 h.2.2.2.1)
 rw [af q3.1, af q3.2] at h1
 by_cases q4 : 0 ≤ c4 ∧ c4 ≤ 5
 case neg =>
   rw [show (decide (0 ≤ c4) && decide (c4 ≤ 5)) = false by rw [Bool.and_eq_false_iff, decide_eq_false_iff_not, decide_eq_false_iff_not]; omega] at h1; exact no h1 (fun h => q4 h.2.2.2.2.1)
 rw [af q4.1, af q4.2] at h1
 by_cases q5 : (20 : Int) < ((List.length xs : Nat) : Int)
 · rw [af q5] at h1; exact no h1 (fun h => by have := h.2.2.2.2.2.1; omega)
 rw [aj q5] at h1; rcases hq with ⟨rfl, q⟩ | ⟨rfl, q⟩
 · exact yes h1 ⟨q0, q1, q2, q3, q4, by omega, q⟩
 · exact no h1 (fun h => q h.2.2.2.2.2.2)
end Go.TM
set_option linter.unusedSimpArgs false
set_option linter.unusedVariables false
namespace Go.TM
open Go
theorem vF (a : Int) : iY a = some (decide (1 ≤ a) && decide (a ≤ 2), ()) := by
 unfold iY
 by_cases h1 : a = 1
 · subst h1; rfl
 by_cases h2 : a = 2
 · subst h2; rfl
 have e : (decide (1 ≤ a) && decide (a ≤ 2)) = false := by
   rw [Bool.and_eq_false_iff, decide_eq_false_iff_not, decide_eq_false_iff_not]; omega
 rw [e, aj h1, aj h2]; rfl
theorem Mi (a b c : Int) (s : ByteArray) : ∃ x, gS a b c s = some (x, ()) ∧ iR a b c s = some (x, ()) := by
 unfold gS iR; simp only [nM, rB, py, vF, Option.bind_some]
 cases (decide (1 ≤ a) && decide (a ≤ 60))
 · exact ⟨_, rfl, rfl⟩
 cases (decide (1 ≤ b) && decide (b ≤ 5))
 · exact ⟨_, rfl, rfl⟩
 cases (decide (1 ≤ c) && decide (c ≤ 2))
 · exact ⟨_, rfl, rfl⟩
 · exact ⟨_, rfl, rfl⟩
theorem JC (xs : List (Int × Int × Int × ByteArray × Unit)) (h : xs.length ≤ 1048576) :
   ∃ e f, aE dI (xs, (0 : Int), ()) = some e ∧ aE jk (xs, xs, ((List.length xs : Nat) : Int), (0 : Int), ()) = some f ∧ Be e f := by
 refine mb xs.length (fun k x y => x = (xs, ((k : Nat) : Int), ()) ∧ y = (xs, xs, ((List.length xs : Nat) : Int), ((k : Nat) : Int), ())) Be ?_ ⟨rfl, rfl⟩
 rintro k x y hk ⟨rfl, rfl⟩
 by_cases bX : k < xs.length
 · obtain ⟨b, r1, r2⟩ := Mi xs[k].1 xs[k].2.1 xs[k].2.2.1 xs[k].2.2.2.1; simp only [dI, jg, jk, og, ax bX, ak, cond_true, au, List.getElem?_eq_getElem bX, Option.bind_some, r1, r2, aG (show k < 4611686018427387904 by omega)]
   cases b
   · exact .inl ⟨.inr (false, ()), .inr (false, ()), rfl, rfl, rfl⟩
   · by_cases h0 : 0 < k
     · have hp : k - 1 < xs.length := by omega
       rw [pz h0 (by omega)]; simp only [af (show (0 : Int) < ((k : Nat) : Int) by omega), Bool.not_true, cond_false, cond_true, ak, au, List.getElem?_eq_getElem hp, Option.bind_some]
       cases decide (xs[k].1 ≤ xs[k - 1].1)
       · exact .inr ⟨bX, _, _, rfl, rfl, rfl, rfl⟩
       · exact .inl ⟨.inr (false, ()), .inr (false, ()), rfl, rfl, rfl⟩
     · have : k = 0 := by omega
       subst this; simp only [aj (show ¬ (0 : Int) < ((0 : Nat) : Int) by omega), Bool.not_true, cond_false]; exact .inr ⟨bX, _, _, rfl, rfl, rfl, rfl⟩
 · have : k = xs.length := by omega
   subst this; exact .inl ⟨.inl (), .inl (), by simp only [dI, jg, aD, cond_false], by simp only [jk, og, aD, cond_false], trivial⟩
theorem CQ (xs : List (Int × Int × Int × ByteArray × Unit)) (h : xs.length ≤ 1048576) : ∃ b, fR xs = some (b, ()) ∧ iZ xs = some (b, ()) := by
 obtain ⟨e, f, h1, h2, h3⟩ := JC xs h; unfold fR iZ; rw [h1, h2]
 cases e with
 | inl e => cases f with
   | inl f => exact ⟨true, rfl, rfl⟩
   | inr f => exact h3.elim
 | inr e => cases f with
   | inl f => exact h3.elim
   | inr f => exact ⟨e.1, rfl, by rw [show e.1 = f.1 from h3]; rfl⟩
abbrev cH : Type := Int × Int × Int × ByteArray × Unit
abbrev aK : Type := List cH
def dF (xs : aK) (s : Int) : Option cH := xs.find? fun r => decide (r.1 = s)
def np : Option cH → Int × Int × Int × ByteArray × Bool × Unit
 | none => (0, 0, 0, ByteArray.empty, false, ())
 | some r => (r.1, r.2.1, r.2.2.1, r.2.2.2.1, true, ())
def Kx : Option cH → Sum (Int × Int × Int × ByteArray × Unit) (Int × Int × Int × ByteArray × Bool × Unit)
 | none => .inl (0, 0, 0, ByteArray.empty, ())
 | some r => .inr (np (some r))
theorem Ev (xs : aK) (s : Int) {k : Nat} (hk : k < xs.length) : dF (xs.drop k) s = if xs[k].1 = s then some xs[k] else dF (xs.drop (k + 1)) s := by
 unfold dF; rw [List.drop_eq_getElem_cons hk, List.find?_cons]
 by_cases h : xs[k].1 = s
 · rw [af h, if_pos h]
 · rw [aj h, if_neg h]
theorem q8 (xs : aK) (s : Int) (h : xs.length ≤ 1048576) : j8 xs s = some (np (dF xs s)) := by
 have hl := rU (round := iF) (n := xs.length) (fun k => (xs, s, (0 : Int), (0 : Int), (0 : Int), ByteArray.empty, ((k : Nat) : Int), ())) (fun k => some (Kx (dF (xs.drop k) s)))
   ⟨.inl (0, 0, 0, ByteArray.empty, ()), by simp only [iF, pU, aD, cond_false], by rw [List.drop_length]; rfl⟩ (fun k hk => by
     rw [Ev xs s hk]; simp only [iF, pU, ax hk, ak, cond_true, au, List.getElem?_eq_getElem hk, Option.bind_some, aG (show k < 4611686018427387904 by omega)]
     by_cases h : xs[k].1 = s
     · rw [af h, if_pos h]; exact .inl ⟨_, rfl, rfl⟩
     · rw [aj h, if_neg h]; exact .inr ⟨rfl, rfl⟩) 0 (Nat.zero_le _)
 unfold j8; have hl : aE iF (xs, s, (0 : Int), (0 : Int), (0 : Int), ByteArray.empty, (0 : Int), ()) = _ := hl; rw [hl, List.drop_zero]
 cases dF xs s <;> rfl
theorem q9 (xs : aK) (s : Int) (h : xs.length ≤ 1048576) : ka xs s = some (np (dF xs s)) := by
 have hl := rU (round := iK) (n := xs.length) (fun k => (s, (0 : Int), (0 : Int), (0 : Int), ByteArray.empty, xs, ((List.length xs : Nat) : Int), ((k : Nat) : Int), ())) (fun k => some (Kx (dF (xs.drop k) s)))
   ⟨.inl (0, 0, 0, ByteArray.empty, ()), by simp only [iK, qc, aD, cond_false], by rw [List.drop_length]; rfl⟩ (fun k hk => by
     rw [Ev xs s hk]; simp only [iK, qc, ax hk, ak, cond_true, au, List.getElem?_eq_getElem hk, Option.bind_some, aG (show k < 4611686018427387904 by omega)]
     by_cases h : xs[k].1 = s
     · rw [af h, if_pos h]; exact .inl ⟨_, rfl, rfl⟩
     · rw [aj h, if_neg h]; exact .inr ⟨rfl, rfl⟩) 0 (Nat.zero_le _)
 unfold ka; have hl : aE iK (s, (0 : Int), (0 : Int), (0 : Int), ByteArray.empty, xs, ((List.length xs : Nat) : Int), (0 : Int), ()) = _ := hl; rw [hl, List.drop_zero]
 cases dF xs s <;> rfl
theorem AE : (n : Nat) → (ys : List Int) → (∀ i, i < n → ((i + 1 : Nat) : Int) ∈ ys) → n ≤ ys.length
 | 0, _, _ => Nat.zero_le _
 | n + 1, ys, h => by
   have hm := h n (by omega); have := AE n (ys.erase ((n + 1 : Nat) : Int)) (fun i hi => (List.mem_erase_of_ne (by omega)).2 (h i (by omega))); rw [List.length_erase_of_mem hm] at this; have : 0 < ys.length := List.length_pos_of_mem hm; omega
theorem JD {xs : aK} {s : Int} {r : cH} (h : dF xs s = some r) : r ∈ xs ∧ r.1 = s := by
 unfold dF at h; exact ⟨List.mem_of_find?_eq_some h, by have := List.find?_some h; simpa using this⟩
def Ky (xs : aK) (n : Nat) : Prop := n ≤ xs.length ∧ (∀ i, i < n → (dF xs ((i + 1 : Nat) : Int)).isSome = true) ∧ dF xs ((n + 1 : Nat) : Int) = none
theorem QC {xs : aK} (h : ∀ i, i < xs.length → (dF xs ((i + 1 : Nat) : Int)).isSome = true) : dF xs ((xs.length + 1 : Nat) : Int) = none := by
 cases hq : dF xs ((xs.length + 1 : Nat) : Int) with
 | none => rfl
 | some r =>
   have key := AE (xs.length + 1) (xs.map (·.1)) (fun i hi => by
     have : ∃ r, dF xs ((i + 1 : Nat) : Int) = some r := by
       by_cases M0 : i < xs.length
       · exact Option.isSome_iff_exists.1 (h i M0)
       · have : i = xs.length := by omega
         subst this; exact ⟨r, hq⟩
     obtain ⟨r', hr⟩ := this; obtain ⟨m1, m2⟩ := JD hr; exact List.mem_map.2 ⟨r', m1, m2⟩)
   rw [List.length_map] at key; omega
theorem CR (xs : aK) (h : xs.length ≤ 1048576) : ∃ n : Nat, fv xs = some (((n : Nat) : Int), ()) ∧ il xs = some (((n : Nat) : Int), ()) ∧ Ky xs n := by
 obtain ⟨e, f, h1, h2, n, h3⟩ : ∃ e f, aE nh (xs, (0 : Int), (0 : Int), ()) = some e ∧ aE nk (xs, (0 : Int), ()) = some f ∧ ∃ n : Nat, (e = .inl (((n : Nat) : Int), ()) ∨ e = .inr (((n : Nat) : Int), ())) ∧ f = .inr (((n : Nat) : Int), ()) ∧ Ky xs n := by
   refine mb xs.length (fun k x y => x = (xs, ((k : Nat) : Int), ((k : Nat) : Int), ()) ∧ y = (xs, ((k : Nat) : Int), ()) ∧ ∀ i, i < k → (dF xs ((i + 1 : Nat) : Int)).isSome = true) _ ?_ ⟨rfl, rfl, fun i hi => by omega⟩
   rintro k x y hk ⟨rfl, rfl, pK⟩
   simp only [nh, wy, nk, wz, aG (show k < 4611686018427387904 by omega), q8 xs _ h, q9 xs _ h, Option.bind_some]
   by_cases bX : k < xs.length
   · rw [ax bX]
     cases hq : dF xs ((k + 1 : Nat) : Int) with
     | none => exact .inl ⟨.inr (((k : Nat) : Int), ()), .inr (((k : Nat) : Int), ()), rfl, rfl, k, .inr rfl, rfl, hk, pK, hq⟩
     | some r =>
       refine .inr ⟨bX, _, _, rfl, rfl, rfl, rfl, fun i hi => ?_⟩
       by_cases M0 : i < k
       · exact pK i M0
       · have : i = k := by omega
         subst this; rw [hq]; rfl
   · have : k = xs.length := by omega
     subst this; have hq := QC pK; rw [aD, hq]; exact .inl ⟨.inl (((xs.length : Nat) : Int), ()), .inr (((xs.length : Nat) : Int), ()), rfl, rfl, xs.length, .inl rfl, rfl, hk, pK, hq⟩
 obtain ⟨h3, rfl, h4⟩ := h3; unfold fv il; rw [h1, h2]; refine ⟨n, ?_, rfl, h4⟩; rcases h3 with rfl | rfl <;> rfl
end Go.TM
set_option linter.unusedSimpArgs false
set_option linter.unusedVariables false
namespace Go.TM
open Go
end Go.TM
set_option linter.unusedSimpArgs false
set_option linter.unusedVariables false
namespace Go.TM
open Go
theorem Bf (xs : List (Int × Unit)) (d : Int) (h : xs.length ≤ 1048576) : dN xs d = some (decide ((d, ()) ∈ xs), ()) := by
 have hl := rU (round := cD) (n := xs.length) (fun k => (xs, d, ((k : Nat) : Int), ())) (fun k => some (if (d, ()) ∈ xs.drop k then .inr (true, ()) else .inl ()))
   ⟨.inl (), by simp only [cD, ie, aD, cond_false], by rw [List.drop_length]; rfl⟩ (fun k hk => by
     rw [List.drop_eq_getElem_cons hk]; simp only [cD, ie, ax hk, ak, cond_true, au, List.getElem?_eq_getElem hk, Option.bind_some, aG (show k < 4611686018427387904 by omega)]
     by_cases e : xs[k].1 = d
     · rw [af e]; exact .inl ⟨_, rfl, by rw [if_pos (List.mem_cons.2 (.inl (by rw [← e])))]⟩
     · rw [aj e]; refine .inr ⟨rfl, ?_⟩; have : ((d, ()) ∈ xs[k] :: xs.drop (k + 1)) ↔ ((d, ()) ∈ xs.drop (k + 1)) := by
         rw [List.mem_cons]; exact ⟨fun h => h.resolve_left (fun q => e (by rw [← q])), .inr⟩
       by_cases q : (d, ()) ∈ xs.drop (k + 1)
       · rw [if_pos q, if_pos (this.2 q)]
       · rw [if_neg q, if_neg (fun z => q (this.1 z))]) 0 (Nat.zero_le _)
 unfold dN; have hl : aE cD (xs, d, (0 : Int), ()) = _ := hl; rw [hl, List.drop_zero]
 by_cases q : (d, ()) ∈ xs
 · rw [if_pos q, af q]; rfl
 · rw [if_neg q, aj q]; rfl
theorem Kz (xs : List (Int × Unit)) (d : Int) (h : xs.length ≤ 1048576) : ch xs d = some (decide ((d, ()) ∈ xs), ()) := by
 obtain ⟨b, h1, h2⟩ := rC d xs h; rw [Bf xs d h] at h1; injection h1 with h1; injection h1 with h1 _; rw [h2, h1]
end Go.TM
set_option linter.unusedSimpArgs false
set_option linter.unusedVariables false
namespace Go.TM
open Go
def ub (l : List (Int × Unit)) (n : Nat) : Prop := ∀ j (h : j < l.length), j < n → (decide (1 ≤ l[j].1) && decide (l[j].1 ≤ 2)) = true
def iA (l : List (ByteArray × Unit)) (n : Nat) : Prop := ∀ j (h : j < l.length), j < n → ByteArray.size l[j].1 ≤ 60
def OR (lv : List (Int × Unit)) (tx : List (ByteArray × Unit)) : Sum (List (Int × Unit) × List (ByteArray × Unit) × Unit) (Bool × Unit) → Prop
 | .inl y => y = (lv, tx, ()) ∧ ub lv (min lv.length tx.length) ∧ iA tx (min lv.length tx.length)
 | .inr b => b.1 = false ∧ ¬ (ub lv (min lv.length tx.length) ∧ iA tx (min lv.length tx.length))
theorem CS (lv : List (Int × Unit)) (tx : List (ByteArray × Unit)) (h1 : lv.length ≤ 1048576) (h2 : tx.length ≤ 1048576) : ∃ b, ng lv tx = some (b, ()) ∧ (b = true ↔ tx.length ≤ 20 ∧ lv.length = tx.length ∧ ub lv lv.length ∧ iA tx tx.length) := by
 obtain ⟨e, he, hq⟩ := ev (round := gh) (x := (lv, tx, ((0 : Nat) : Int), ())) (min lv.length tx.length) (fun k x => x = (lv, tx, ((k : Nat) : Int), ()) ∧ ub lv k ∧ iA tx k) (OR lv tx) (by
     rintro x ⟨rfl, g1, g2⟩
     refine ⟨.inl (lv, tx, ()), ?_, rfl, g1, g2⟩
     by_cases hb : min lv.length tx.length < tx.length
     · have e : min lv.length tx.length = lv.length := by omega
       simp only [gh, kq, ax hb, cond_true]; rw [e, aD]; rfl
     · have e : min lv.length tx.length = tx.length := by omega
       simp only [gh, kq]; rw [e, aD]; rfl) (by
     rintro k x hk ⟨rfl, g1, g2⟩
     have hl : k < lv.length := by omega
     have ht : k < tx.length := by omega
     simp only [gh, kq, ax hl, ax ht, ak, cond_true, au, List.getElem?_eq_getElem hl, List.getElem?_eq_getElem ht, Option.bind_some, nM, aG (show k < 4611686018427387904 by omega)]
     cases Zd : (decide (1 ≤ lv[k].1) && decide (lv[k].1 ≤ 2))
     · refine .inl ⟨.inr (false, ()), rfl, rfl, fun hn => ?_⟩; have := hn.1 k hl (by omega); rw [Zd] at this
       cases this
     · by_cases hs : (60 : Int) < ((ByteArray.size tx[k].1 : Nat) : Int)
       · rw [af hs]; refine .inl ⟨.inr (false, ()), rfl, rfl, fun hn => ?_⟩; have := hn.2 k ht (by omega); omega
       · rw [aj hs]; refine .inr ⟨_, rfl, rfl, fun j hj F2 => ?_, fun j hj F2 => ?_⟩
         · by_cases e : j < k
           · exact g1 j hj e
           · have : j = k := by omega
             subst this; exact Zd
         · by_cases e : j < k
           · exact g2 j hj e
           · have : j = k := by omega
             subst this; omega) ⟨rfl, fun j _ h => by omega, fun j _ h => by omega⟩
 unfold ng; rw [show (0 : Int) = ((0 : Nat) : Int) from rfl, he]
 cases e with
 | inr e =>
   obtain ⟨q1, q2⟩ := hq; refine ⟨false, by rw [← q1]; rfl, ⟨(fun h => by cases h), fun ⟨w1, w2, w3, w4⟩ => ?_⟩⟩; exact absurd ⟨fun j hj hm => w3 j hj hj, fun j hj hm => w4 j hj hj⟩ q2
 | inl e =>
   obtain ⟨q1, q2, q3⟩ := hq; subst q1; simp only [jd]
   by_cases w1 : ((List.length tx : Nat) : Int) ≤ 20
   · rw [af w1]; refine ⟨_, rfl, ?_⟩; rw [decide_eq_true_eq]
     constructor
     · intro w2; have w2 : lv.length = tx.length := by omega
       exact ⟨by omega, w2, fun j hj _ => q2 j hj (by omega), fun j hj _ => q3 j hj (by omega)⟩
     · rintro ⟨_, w2, _⟩
       rw [w2]
   · rw [aj w1]; exact ⟨false, rfl, ⟨(fun h => by cases h), fun ⟨w2, _⟩ => by omega⟩⟩
theorem JE (tx : List (ByteArray × Unit)) (h2 : tx.length ≤ 1048576) : ∃ b, nj tx = some (b, ()) ∧ (b = true ↔ iA tx tx.length) := by
 obtain ⟨e, he, hq⟩ := ev (round := iJ) (x := (tx, ((List.length tx : Nat) : Int), ((0 : Nat) : Int), ())) tx.length (fun k x => x = (tx, ((List.length tx : Nat) : Int), ((k : Nat) : Int), ()) ∧ iA tx k) (fun e => (e = .inl () ∧ iA tx tx.length) ∨ (e = .inr (false, ()) ∧ ¬ iA tx tx.length)) (by
     rintro x ⟨rfl, g2⟩
     exact ⟨.inl (), by simp only [iJ, mV, aD, cond_false], .inl ⟨rfl, g2⟩⟩) (by
     rintro k x hk ⟨rfl, g2⟩
     simp only [iJ, mV, ax hk, ak, cond_true, au, List.getElem?_eq_getElem hk, Option.bind_some, aG (show k < 4611686018427387904 by omega)]
     by_cases hs : (60 : Int) < ((ByteArray.size tx[k].1 : Nat) : Int)
     · rw [af hs]; refine .inl ⟨.inr (false, ()), rfl, .inr ⟨rfl, fun hn => ?_⟩⟩; have := hn k hk hk; omega
     · rw [aj hs]; refine .inr ⟨_, rfl, rfl, fun j hj F2 => ?_⟩
       by_cases e : j < k
       · exact g2 j hj e
       · have : j = k := by omega
         subst this; omega) ⟨rfl, fun j _ h => by omega⟩
 unfold nj; rw [show (0 : Int) = ((0 : Nat) : Int) from rfl, he]; rcases hq with ⟨rfl, q⟩ | ⟨rfl, q⟩
 · exact ⟨true, rfl, ⟨fun _ => q, fun _ => rfl⟩⟩
 · exact ⟨false, rfl, ⟨(fun h => by cases h), fun h => absurd h q⟩⟩
theorem CT (c0 c1 c2 c3 c4 : Int) (xs : List (Int × Unit)) : ∃ b, eg c0 c1 c2 c3 c4 xs = some (b, ()) ∧ cO c0 c1 c2 c3 c4 xs = some (b, ()) := by
 unfold eg mh cO
 cases decide (c0 = 0)
 · exact ⟨_, rfl, rfl⟩
 cases decide (c1 = 0)
 · exact ⟨_, rfl, rfl⟩
 cases decide (c2 = 0)
 · exact ⟨_, rfl, rfl⟩
 cases decide (c3 = 0)
 · exact ⟨_, rfl, rfl⟩
 cases decide (c4 = 0)
 · exact ⟨_, rfl, rfl⟩
 cases xs with
 | nil =>
   have hl := cX (round := fJ) (e := .inl ()) 0 (fun k => (([] : List (Int × Unit)), ([] : List (Int × Unit)), ((k : Nat) : Int), ())) (by
     simp only [fJ, oK, List.length_nil, aD, cond_false]) (fun k hk => by omega)
   have hl : aE fJ (([] : List (Int × Unit)), ([] : List (Int × Unit)), (0 : Int), ()) = _ := hl; refine ⟨true, ?_, rfl⟩; simp only [cond_true, kr, List.length_nil, decide_true, Bool.not_true, cond_false, hl, jd, Option.bind_some]
 | cons x xs =>
   have e : decide (((List.length (x :: xs) : Nat) : Int) = (0 : Int)) = false := aj (by rw [List.length_cons]; omega); have e2 : decide (((List.length (x :: xs) : Nat) : Int) = ((List.length ([] : List (Int × Unit)) : Nat) : Int)) = false := e; refine ⟨false, ?_, ?_⟩
   · simp only [cond_true, kr, e2, Bool.not_false, Option.bind_some]
   · simp only [cond_true, e]
abbrev RH : Type := Int × Int × (List (Int × Unit)) × aK × (List (Int × Unit)) × (List (ByteArray × Unit)) × Int × Int × Int × Int × Int × Int × Int × Int × Int × (List (Int × Unit)) × Unit
def VA (m : RH) (lv : List (Int × Unit)) : Sum RH (Bool × Unit) → Prop
 | .inl y => y = m ∧ ub lv lv.length
 | .inr b => b.1 = false ∧ ¬ ub lv lv.length
theorem HA (dn : Int) (dv : Int) (cL : List (Int × Unit)) (cz : List (Int × Int × Int × ByteArray × Unit)) (cj : List (Int × Unit)) (cE : List (ByteArray × Unit)) (dK : Int) (ec : Int) (ed : Int) (ee : Int) (bN : Int) (bO : Int) (bP : Int) (bQ : Int) (bR : Int) (bB : List (Int × Unit))
   (h0 : (List.length cL + wl F3 cL) + (List.length cz + wl oD cz) + (List.length cj + wl F3 cj) + (List.length cE + wl Wf cE) + (List.length bB + wl F3 bB) ≤ 1048576) : ∃ o0, fb dn dv cL cz cj cE dK ec ed ee bN bO bP bQ bR bB = some (o0, ()) ∧ gU dn dv cL cz cj cE dK ec ed ee bN bO bP bQ bR bB = some (o0, ()) := by
 obtain ⟨b1, r1, r2, _⟩ := zM dv cL (by omega); obtain ⟨b2, c1, c2⟩ := rC dn cL (by omega); obtain ⟨b3, i1, i2⟩ := CQ cz (by omega); obtain ⟨b4, t1, t2⟩ := CS cj cE (by omega) (by omega); obtain ⟨b5, s1, s2⟩ := JE cE (by omega); obtain ⟨n, a1, a2, _⟩ := CR cz (by omega); obtain ⟨b6, z1, z2⟩ := CT bN bO bP bQ bR bB; obtain ⟨b7, k1, k2, _⟩ := tO bN bO bP bQ bR bB (by omega); obtain ⟨e, he, hq⟩ := ev (round := iL) (x := (dn, dv, cL, cz, cj, cE, dK, ec, ed, ee, bN, bO, bP, bQ, bR, bB, cj, ((List.length cj : Nat) : Int), ((0 : Nat) : Int), ())) cj.length
   (fun k x => x = (dn, dv, cL, cz, cj, cE, dK, ec, ed, ee, bN, bO, bP, bQ, bR, bB, cj, ((List.length cj : Nat) : Int), ((k : Nat) : Int), ()) ∧ ub cj k)
   (VA (dn, dv, cL, cz, cj, cE, dK, ec, ed, ee, bN, bO, bP, bQ, bR, bB, ()) cj) (by
     rintro x ⟨rfl, g⟩
     exact ⟨.inl _, by simp only [iL, qd, aD, cond_false], rfl, g⟩) (by
     rintro k x hk ⟨rfl, g⟩
     simp only [iL, qd, ax hk, ak, cond_true, au, List.getElem?_eq_getElem hk, Option.bind_some, vF, aG (show k < 4611686018427387904 by omega)]
     cases Zd : (decide (1 ≤ cj[k].1) && decide (cj[k].1 ≤ 2))
     · refine .inl ⟨.inr (false, ()), rfl, rfl, fun hn => ?_⟩; have := hn k hk hk; rw [Zd] at this
       cases this
     · refine .inr ⟨_, rfl, rfl, fun j hj F2 => ?_⟩
       by_cases e : j < k
       · exact g j hj e
       · have : j = k := by omega
         subst this; exact Zd) ⟨rfl, fun j _ h => by omega⟩
 have he : aE iL (dn, dv, cL, cz, cj, cE, dK, ec, ed, ee, bN, bO, bP, bQ, bR, bB, cj, ((List.length cj : Nat) : Int), (0 : Int), ()) = some e := he; unfold fb gU; simp only [r1, r2, c1, c2, i1, i2, t1, s1, Option.bind_some, he]
 cases b1
 · cases b2
   · exact ⟨_, rfl, rfl⟩
   · exact ⟨_, rfl, rfl⟩
 cases b2
 · exact ⟨_, rfl, rfl⟩
 cases b3
 · exact ⟨_, rfl, rfl⟩
 simp only [Bool.not_true, cond_false]
 by_cases w1 : (20 : Int) < ((List.length cE : Nat) : Int)
 · have : b4 = false := by
     cases b4
     · rfl
     · have := (t2.1 rfl).1; omega
   subst this; rw [af w1]; exact ⟨_, rfl, rfl⟩
 rw [aj w1]
 cases b5
 · have : b4 = false := by
     cases b4
     · rfl
     · have := s2.2 (t2.1 rfl).2.2.2; cases this
   subst this; exact ⟨_, rfl, rfl⟩
 by_cases w2 : ((List.length cj : Nat) : Int) = ((List.length cE : Nat) : Int)
 case neg =>
   have : b4 = false := by
     cases b4
     · rfl
     · have := (t2.1 rfl).2.1; omega
   subst this; rw [aj w2]; exact ⟨_, rfl, rfl⟩
 rw [af w2]
 cases e with
 | inr e =>
   obtain ⟨q1, q2⟩ := hq; have : b4 = false := by
     cases b4
     · rfl
     · exact absurd (t2.1 rfl).2.2.1 q2
   subst this; refine ⟨false, rfl, ?_⟩; show some (e.1, ()) = _; rw [q1]
 | inl e =>
   obtain ⟨q1, q2⟩ := hq; subst q1; have : b4 = true := t2.2 ⟨by omega, by omega, q2, s2.1 rfl⟩; subst this; simp only [Bool.not_true, cond_false, jd, a1, a2, z1, z2, k1, k2, nM, rB, Option.bind_some]
   cases (decide (0 ≤ dK) && decide (dK ≤ 1000000000))
   · exact ⟨_, rfl, rfl⟩
   cases (decide (0 ≤ ec) && decide (ec ≤ 60))
   · exact ⟨_, rfl, rfl⟩
   cases (decide (0 ≤ ed) && decide (ed ≤ ((n : Nat) : Int)))
   · exact ⟨_, rfl, rfl⟩
   cases (decide (0 ≤ ee) && decide (ee ≤ ((n : Nat) : Int)))
   · exact ⟨_, rfl, rfl⟩
   cases b6
   · exact ⟨_, rfl, rfl⟩
   · exact ⟨_, rfl, rfl⟩
end Go.TM
set_option linter.unusedSimpArgs false
set_option linter.unusedVariables false
namespace Go.TM
open Go
def kS (r : cH) : Prop := (1 ≤ r.1 ∧ r.1 ≤ 60) ∧ (1 ≤ r.2.1 ∧ r.2.1 ≤ 5) ∧ (1 ≤ r.2.2.1 ∧ r.2.2.1 ≤ 2) ∧ ByteArray.size r.2.2.2.1 ≤ 60
def im (xs : aK) (n : Nat) : Prop := ∀ k (h : k < xs.length), k < n → kS xs[k] ∧ ∀ h0 : 0 < k, xs[k - 1].1 < xs[k].1
theorem HB (a b c : Int) (s : ByteArray) : ∃ x, gS a b c s = some (x, ()) ∧ iR a b c s = some (x, ()) ∧ (x = true ↔ kS (a, b, c, s, ())) := by
 have hi : ∀ {p q r : Prop} [Decidable p] [Decidable q], (decide p && decide q) = false → ¬ ((p ∧ q) ∧ r) := by
   intro p q r _ _ h ⟨h1, _⟩; rw [decide_eq_true h1.1, decide_eq_true h1.2] at h
   cases h
 unfold gS iR kS; simp only [nM, rB, py, vF, Option.bind_some]
 cases h1 : (decide (1 ≤ a) && decide (a ≤ 60))
 · exact ⟨false, rfl, rfl, ⟨fun h => (by cases h), fun h => absurd h (hi h1)⟩⟩
 rw [Bool.and_eq_true, decide_eq_true_eq, decide_eq_true_eq] at h1
 cases h2 : (decide (1 ≤ b) && decide (b ≤ 5))
 · exact ⟨false, rfl, rfl, ⟨fun h => (by cases h), fun h => absurd h.2 (hi h2)⟩⟩
 rw [Bool.and_eq_true, decide_eq_true_eq, decide_eq_true_eq] at h2
 cases h3 : (decide (1 ≤ c) && decide (c ≤ 2))
 · exact ⟨false, rfl, rfl, ⟨fun h => (by cases h), fun h => absurd h.2.2 (hi h3)⟩⟩
 rw [Bool.and_eq_true, decide_eq_true_eq, decide_eq_true_eq] at h3; refine ⟨_, rfl, rfl, ?_⟩; rw [decide_eq_true_eq]; exact ⟨fun h => ⟨h1, h2, h3, by omega⟩, fun h => by have := h.2.2.2; omega⟩
theorem Mj (xs : aK) (h : xs.length ≤ 1048576) : ∃ b, fR xs = some (b, ()) ∧ iZ xs = some (b, ()) ∧ (b = true ↔ im xs xs.length) := by
 obtain ⟨b, h1, h2⟩ := CQ xs h; refine ⟨b, h1, h2, ?_⟩; obtain ⟨e, he, hq⟩ := ev (round := dI) (x := (xs, ((0 : Nat) : Int), ())) xs.length (fun k x => x = (xs, ((k : Nat) : Int), ()) ∧ im xs k) (fun e => (e = .inl () ∧ im xs xs.length) ∨ (e = .inr (false, ()) ∧ ¬ im xs xs.length)) (by
     rintro x ⟨rfl, g⟩
     exact ⟨.inl (), by simp only [dI, jg, aD, cond_false], .inl ⟨rfl, g⟩⟩) (by
     rintro k x hk ⟨rfl, g⟩
     obtain ⟨b, r1, _, r3⟩ := HB xs[k].1 xs[k].2.1 xs[k].2.2.1 xs[k].2.2.2.1; have r3 : b = true ↔ kS xs[k] := r3; simp only [dI, jg, ax hk, ak, cond_true, au, List.getElem?_eq_getElem hk, Option.bind_some, r1, aG (show k < 4611686018427387904 by omega)]; have more : kS xs[k] → (∀ h0 : 0 < k, xs[k - 1].1 < xs[k].1) → im xs (k + 1) := fun q1 q2 j hj F2 => by
       by_cases e : j < k
       · exact g j hj e
       · have : j = k := by omega
         subst this; exact ⟨q1, q2⟩
     cases b
     · exact .inl ⟨.inr (false, ()), rfl, .inr ⟨rfl, fun hn => absurd (r3.2 (hn k hk hk).1) (by simp)⟩⟩
     · have q1 := r3.1 rfl
       by_cases h0 : 0 < k
       · have hp : k - 1 < xs.length := by omega
         rw [pz h0 (by omega)]; simp only [af (show (0 : Int) < ((k : Nat) : Int) by omega), Bool.not_true, cond_false, cond_true, ak, au, List.getElem?_eq_getElem hp, Option.bind_some]
         by_cases hs : xs[k].1 ≤ xs[k - 1].1
         · rw [af hs]; refine .inl ⟨.inr (false, ()), rfl, .inr ⟨rfl, fun hn => ?_⟩⟩; have := (hn k hk hk).2 h0; omega
         · rw [aj hs]; exact .inr ⟨_, rfl, rfl, more q1 (fun _ => by omega)⟩
       · have : k = 0 := by omega
         subst this; simp only [aj (show ¬ (0 : Int) < ((0 : Nat) : Int) by omega), Bool.not_true, cond_false]; exact .inr ⟨_, rfl, rfl, more q1 (fun h => absurd h (by omega))⟩) ⟨rfl, fun j _ h => by omega⟩
 have he : aE dI (xs, (0 : Int), ()) = some e := he; unfold fR at h1; rw [he] at h1; rcases hq with ⟨rfl, g⟩ | ⟨rfl, g⟩
 · injection h1 with h1; injection h1 with h1 _; exact ⟨fun _ => g, fun _ => h1.symm⟩
 · injection h1 with h1; injection h1 with h1 _; subst h1; exact ⟨fun h => (by cases h), fun h => absurd h g⟩
theorem OS {α : Type} (f : α → Nat) (c : Nat) : (xs : List α) → (∀ x ∈ xs, f x ≤ c) → wl f xs ≤ c * xs.length
 | [], _ => Nat.zero_le _
 | x :: xs, h => by
   rw [P5, List.length_cons, Nat.mul_succ]; have := OS f c xs (fun y hy => h y (List.mem_cons_of_mem _ hy)); have := h x List.mem_cons_self; omega
theorem Ew (xs : aK) (h : im xs xs.length) : ∀ k (hk : k < xs.length), ((k + 1 : Nat) : Int) ≤ xs[k].1
 | 0, hk => by have := (h 0 hk hk).1.1.1; omega
 | k + 1, hk => by
   have h1 := Ew xs h k (by omega); have h2 := (h (k + 1) hk hk).2 (by omega); have h2 : xs[k].1 < xs[k + 1].1 := h2; omega
theorem cf (xs : aK) (h : im xs xs.length) : xs.length ≤ 60 ∧ wl oD xs ≤ 3600 := by
 have h1 : xs.length ≤ 60 := by
   by_cases h0 : 0 < xs.length
   · have := Ew xs h (xs.length - 1) (by omega); have := (h (xs.length - 1) (by omega) (by omega)).1.1.2; omega
   · omega
 refine ⟨h1, Nat.le_trans (OS oD 60 xs fun x hx => ?_) (by omega)⟩; obtain ⟨k, hk, rfl⟩ := List.mem_iff_getElem.1 hx; exact (h k hk hk).1.2.2.2
theorem AF (xs : List (ByteArray × Unit)) (h : iA xs xs.length) : wl Wf xs ≤ 60 * xs.length := by
 refine OS Wf 60 xs fun x hx => ?_
 obtain ⟨k, hk, rfl⟩ := List.mem_iff_getElem.1 hx; exact h k hk hk
structure RI (c0 c1 : Int) (c2 : List (Int × Unit)) (c3 : aK) (c4 : List (Int × Unit)) (c5 : List (ByteArray × Unit)) (c6 c7 c8 c9 : Int) (Ze : List (Int × Unit)) : Prop where
 ring : 1 ≤ c2.length ∧ c2.length ≤ 5
 items : im c3 c3.length
 texts : c5.length ≤ 20 ∧ c4.length = c5.length
 MK : ub c4 c4.length
 short : iA c5 c5.length
 round : 0 ≤ c6 ∧ c6 ≤ 1000000000
 seen : 0 ≤ c7 ∧ c7 ≤ 60
 aru : ∃ n : Nat, fv c3 = some (((n : Nat) : Int), ()) ∧ il c3 = some (((n : Nat) : Int), ()) ∧ Ky c3 n ∧ (0 ≤ c8 ∧ c8 ≤ ((n : Nat) : Int)) ∧ 0 ≤ c9 ∧ c9 ≤ ((n : Nat) : Int)
 oM : Ze.length ≤ 20
theorem xG {p q : Prop} [Decidable p] [Decidable q] (h : (decide p && decide q) = true) : p ∧ q := by
 rw [Bool.and_eq_true, decide_eq_true_eq, decide_eq_true_eq] at h; exact h
theorem RI.small {c0 c1 : Int} {c2 : List (Int × Unit)} {c3 : aK} {c4 : List (Int × Unit)} {c5 : List (ByteArray × Unit)} {c6 c7 c8 c9 : Int} {Ze : List (Int × Unit)} (h : RI c0 c1 c2 c3 c4 c5 c6 c7 c8 c9 Ze) :
   (List.length c2 + wl F3 c2) + (List.length c3 + wl oD c3) + (List.length c4 + wl F3 c4) + (List.length c5 + wl Wf c5) + (List.length Ze + wl F3 Ze) ≤ 5000 := by
 have h1 := cf c3 h.items; have h2 := AF c5 h.short; have h3 := h.texts; have h4 := h.ring; have h5 := h.oM; rw [vX F3 (fun _ => rfl), vX F3 (fun _ => rfl), vX F3 (fun _ => rfl)]; omega
theorem AG (xs : aK) (h : xs.length ≤ 1048576) : ey xs = some (xs, ()) := by
 unfold ey; rw [aF (show (0 + xs.length) * 40 ≤ lim by unfold lim; omega)]; rfl
theorem FG (xs : List (ByteArray × Unit)) (h : xs.length ≤ 1048576) : iz xs = some (xs, ()) := by
 unfold iz; rw [aF (show (0 + xs.length) * 16 ≤ lim by unfold lim; omega)]; rfl
theorem lJ (dn : Int) (dv : Int) (cL : List (Int × Unit)) (cz : aK) (cj : List (Int × Unit)) (cE : List (ByteArray × Unit)) (dK : Int) (ec : Int) (ed : Int) (ee : Int) (bN : Int) (bO : Int) (bP : Int) (bQ : Int) (bR : Int) (bB : List (Int × Unit))
   (h0 : (List.length cL + wl F3 cL) + (List.length cz + wl oD cz) + (List.length cj + wl F3 cj) + (List.length cE + wl Wf cE) + (List.length bB + wl F3 bB) ≤ 1048576) :
   fS dn dv cL cz cj cE dK ec ed ee bN bO bP bQ bR bB = some (dn, dv, cL, cz, cj, cE, dK, ec, ed, ee, bN, bO, bP, bQ, bR, bB, ()) ∧
   fY dn dv cL cz cj cE dK ec ed ee bN bO bP bQ bR bB = some (dn, dv, cL, cz, cj, cE, dK, ec, ed, ee, bN, bO, bP, bQ, bR, bB, ()) := by
 obtain ⟨t1, t2⟩ := fU bN bO bP bQ bR bB (by omega)
 constructor
 · unfold fS; rw [aF (show (0 + cL.length) * 8 ≤ lim by unfold lim; omega), aF (show (0 + cz.length) * 40 ≤ lim by unfold lim; omega), aF (show (0 + cj.length) * 8 ≤ lim by unfold lim; omega), aF (show (0 + cE.length) * 16 ≤ lim by unfold lim; omega), t1]; rfl
 · unfold fY bV; rw [mZ cL (by omega), AG cz (by omega), mZ cj (by omega), FG cE (by omega), t2]; rfl
end Go.TM
set_option linter.unusedSimpArgs false
set_option linter.unusedVariables false
namespace Go.TM
open Go
abbrev cP : Type := List (Int × Unit)
abbrev jG : Type := Int × Int × Int × Int × Int × cP × Unit
abbrev cK : Type := Int × Int × cP × aK × cP × (List (ByteArray × Unit)) × Int × Int × Int × Int × Int × Int × Int × Int × Int × cP × Unit
def JF (xs : cP) (n : Nat) : Prop := ∀ k (h : k < xs.length), k < n → (1 ≤ xs[k].1 ∧ xs[k].1 ≤ 5) ∧ ∀ h0 : 0 < k, xs[k - 1].1 < xs[k].1
def lK (c : Int) (xs : cP) : Prop := (1 ≤ c ∧ c ≤ 9) ∧ (1 ≤ xs.length ∧ xs.length ≤ 5) ∧ JF xs xs.length
theorem OT (c : Int) (xs : cP) (h : xs.length ≤ 1048576) : ∃ b, cG c xs = some (b, ()) ∧ dV c xs = some (b, ()) ∧ (b = true ↔ lK c xs) := by
 obtain ⟨b, h1, h2, _⟩ := zM c xs h; refine ⟨b, h1, h2, ?_⟩; obtain ⟨e, he, hq⟩ := ev (round := ew) (x := (c, xs, ((0 : Nat) : Int), ())) xs.length (fun k x => x = (c, xs, ((k : Nat) : Int), ()) ∧ JF xs k) (fun e => (e = .inl () ∧ JF xs xs.length) ∨ (e = .inr (false, ()) ∧ ¬ JF xs xs.length)) (by
     rintro x ⟨rfl, g⟩
     exact ⟨.inl (), by simp only [ew, j6, aD, cond_false], .inl ⟨rfl, g⟩⟩) (by
     rintro k x hk ⟨rfl, g⟩
     simp only [ew, j6, ax hk, ak, cond_true, au, List.getElem?_eq_getElem hk, Option.bind_some, nM, aG (show k < 4611686018427387904 by omega)]; have more : (1 ≤ xs[k].1 ∧ xs[k].1 ≤ 5) → (∀ h0 : 0 < k, xs[k - 1].1 < xs[k].1) → JF xs (k + 1) := fun q1 q2 j hj F2 => by
       by_cases e : j < k
       · exact g j hj e
       · have : j = k := by omega
         subst this; exact ⟨q1, q2⟩
     cases hb : (decide (1 ≤ xs[k].1) && decide (xs[k].1 ≤ 5))
     · exact .inl ⟨.inr (false, ()), rfl, .inr ⟨rfl, fun hn => by
         have := (hn k hk hk).1; rw [af this.1, af this.2] at hb
         cases hb⟩⟩
     · have q1 := xG hb
       by_cases h0 : 0 < k
       · have hp : k - 1 < xs.length := by omega
         rw [pz h0 (by omega)]; simp only [af (show (0 : Int) < ((k : Nat) : Int) by omega), Bool.not_true, cond_false, cond_true, ak, au, List.getElem?_eq_getElem hp, Option.bind_some]
         by_cases hs : xs[k].1 ≤ xs[k - 1].1
         · rw [af hs]; refine .inl ⟨.inr (false, ()), rfl, .inr ⟨rfl, fun hn => ?_⟩⟩; have := (hn k hk hk).2 h0; omega
         · rw [aj hs]; exact .inr ⟨_, rfl, rfl, more q1 (fun _ => by omega)⟩
       · have : k = 0 := by omega
         subst this; simp only [aj (show ¬ (0 : Int) < ((0 : Nat) : Int) by omega), Bool.not_true, cond_false]; exact .inr ⟨_, rfl, rfl, more q1 (fun h => absurd h (by omega))⟩) ⟨rfl, fun j _ h => by omega⟩
 have he : aE ew (c, xs, (0 : Int), ()) = some e := he; unfold cG at h1; simp only [nM, Option.bind_some, he] at h1; unfold lK
 cases a1 : (decide (1 ≤ c) && decide (c ≤ 9))
 · rw [a1] at h1; injection h1 with h1; injection h1 with h1 _; subst h1; refine ⟨fun h => (by cases h), fun h => ?_⟩; rw [af h.1.1, af h.1.2] at a1
   cases a1
 cases a2 : (decide (1 ≤ ((List.length xs : Nat) : Int)) && decide (((List.length xs : Nat) : Int) ≤ 5))
 · rw [a1, a2] at h1; injection h1 with h1; injection h1 with h1 _; subst h1; refine ⟨fun h => (by cases h), fun h => ?_⟩; rw [af (show (1 : Int) ≤ ((List.length xs : Nat) : Int) by omega), af (show ((List.length xs : Nat) : Int) ≤ 5 by omega)] at a2
   cases a2
 rw [a1, a2] at h1; have a1 := xG a1; have a2 := xG a2; rcases hq with ⟨rfl, g⟩ | ⟨rfl, g⟩
 · injection h1 with h1; injection h1 with h1 _; exact ⟨fun _ => ⟨a1, by omega, g⟩, fun _ => h1.symm⟩
 · injection h1 with h1; injection h1 with h1 _; subst h1; exact ⟨fun h => (by cases h), fun h => absurd h.2.2 g⟩
noncomputable def CU (c : Int) (xs : cP) : Bool := match cG c xs with | some x => x.1 | none => false
theorem ld (c : Int) (xs : cP) (h : xs.length ≤ 1048576) : cG c xs = some (CU c xs, ()) ∧ dV c xs = some (CU c xs, ()) ∧ (CU c xs = true ↔ lK c xs) := by
 obtain ⟨b, h1, h2, h3⟩ := OT c xs h; have : CU c xs = b := by unfold CU; rw [h1]
 rw [this]; exact ⟨h1, h2, h3⟩
noncomputable def qn (xs : aK) : Bool := match fR xs with | some x => x.1 | none => false
theorem vG (xs : aK) (h : xs.length ≤ 1048576) : fR xs = some (qn xs, ()) ∧ iZ xs = some (qn xs, ()) ∧ (qn xs = true ↔ im xs xs.length) := by
 obtain ⟨b, h1, h2, h3⟩ := Mj xs h; have : qn xs = b := by unfold qn; rw [h1]
 rw [this]; exact ⟨h1, h2, h3⟩
noncomputable def wA (r : cH) : Bool := match gS r.1 r.2.1 r.2.2.1 r.2.2.2.1 with | some x => x.1 | none => false
theorem yW (r : cH) : gS r.1 r.2.1 r.2.2.1 r.2.2.2.1 = some (wA r, ()) ∧ iR r.1 r.2.1 r.2.2.1 r.2.2.2.1 = some (wA r, ()) ∧ (wA r = true ↔ kS r) := by
 obtain ⟨b, h1, h2, h3⟩ := HB r.1 r.2.1 r.2.2.1 r.2.2.2.1; have : wA r = b := by unfold wA; rw [h1]
 rw [this]; exact ⟨h1, h2, h3⟩
theorem Bg {p q : Prop} [Decidable p] [Decidable q] : (decide p && decide q) = true ↔ p ∧ q := by
 rw [Bool.and_eq_true, decide_eq_true_eq, decide_eq_true_eq]
theorem Mk (c0 c1 c2 c3 c4 : Int) (xs : cP) : ∃ b, eg c0 c1 c2 c3 c4 xs = some (b, ()) ∧ cO c0 c1 c2 c3 c4 xs = some (b, ()) ∧ (b = true ↔ c0 = 0 ∧ c1 = 0 ∧ c2 = 0 ∧ c3 = 0 ∧ c4 = 0 ∧ xs = []) := by
 obtain ⟨b, h1, h2⟩ := CT c0 c1 c2 c3 c4 xs; refine ⟨b, h1, h2, ?_⟩; unfold cO at h2; have hl : ((List.length xs : Nat) : Int) = 0 ↔ xs = [] := by rw [← List.length_eq_zero_iff]; omega
 by_cases e0 : c0 = 0
 case neg => simp [aj e0] at h2; subst h2; simp [e0]
 by_cases e1 : c1 = 0
 case neg => simp [af e0, aj e1] at h2; subst h2; simp [e1]
 by_cases e2 : c2 = 0
 case neg => simp [af e0, af e1, aj e2] at h2; subst h2; simp [e2]
 by_cases e3 : c3 = 0
 case neg => simp [af e0, af e1, af e2, aj e3] at h2; subst h2; simp [e3]
 by_cases e4 : c4 = 0
 case neg => simp [af e0, af e1, af e2, af e3, aj e4] at h2; subst h2; simp [e4]
 by_cases e5 : ((List.length xs : Nat) : Int) = 0
 · rw [af e0, af e1, af e2, af e3, af e4, af e5] at h2; injection h2 with h2; injection h2 with h2 _; exact ⟨fun _ => ⟨e0, e1, e2, e3, e4, hl.1 e5⟩, fun _ => h2.symm⟩
 · rw [af e0, af e1, af e2, af e3, af e4, aj e5] at h2; injection h2 with h2; injection h2 with h2 _; subst h2; exact ⟨fun h => (by cases h), fun h => absurd (hl.2 h.2.2.2.2.2) e5⟩
def Blank (t : jG) : Prop := t.1 = 0 ∧ t.2.1 = 0 ∧ t.2.2.1 = 0 ∧ t.2.2.2.1 = 0 ∧ t.2.2.2.2.1 = 0 ∧ t.2.2.2.2.2.1 = []
noncomputable def m6 (t : jG) : Bool := match eg t.1 t.2.1 t.2.2.1 t.2.2.2.1 t.2.2.2.2.1 t.2.2.2.2.2.1 with | some x => x.1 | none => false
theorem qo (t : jG) : eg t.1 t.2.1 t.2.2.1 t.2.2.2.1 t.2.2.2.2.1 t.2.2.2.2.2.1 = some (m6 t, ()) ∧ cO t.1 t.2.1 t.2.2.1 t.2.2.2.1 t.2.2.2.2.1 t.2.2.2.2.2.1 = some (m6 t, ()) ∧ (m6 t = true ↔ Blank t) := by
 obtain ⟨b, h1, h2, h3⟩ := Mk t.1 t.2.1 t.2.2.1 t.2.2.2.1 t.2.2.2.2.1 t.2.2.2.2.2.1; have : m6 t = b := by unfold m6; rw [h1]
 rw [this]; exact ⟨h1, h2, h3⟩
def yX (t : jG) : Prop := Vz t.1 t.2.1 t.2.2.1 t.2.2.2.1 t.2.2.2.2.1 t.2.2.2.2.2.1
noncomputable def DI (t : jG) : Bool := match cM t.1 t.2.1 t.2.2.1 t.2.2.2.1 t.2.2.2.2.1 t.2.2.2.2.2.1 with | some x => x.1 | none => false
theorem zN (t : jG) (h : t.2.2.2.2.2.1.length ≤ 1048576) : cM t.1 t.2.1 t.2.2.1 t.2.2.2.1 t.2.2.2.2.1 t.2.2.2.2.2.1 = some (DI t, ()) ∧ eV t.1 t.2.1 t.2.2.1 t.2.2.2.1 t.2.2.2.2.1 t.2.2.2.2.2.1 = some (DI t, ()) ∧ (DI t = true ↔ yX t) := by
 obtain ⟨b, h1, h2, h3⟩ := Eu t.1 t.2.1 t.2.2.1 t.2.2.2.1 t.2.2.2.2.1 t.2.2.2.2.2.1 h; have : DI t = b := by unfold DI; rw [h1]
 rw [this]; exact ⟨h1, h2, h3⟩
noncomputable def dw (xs : aK) : Nat := match fv xs with | some x => x.1.toNat | none => 0
theorem xH (xs : aK) (h : xs.length ≤ 1048576) : fv xs = some (((dw xs : Nat) : Int), ()) ∧ il xs = some (((dw xs : Nat) : Int), ()) ∧ Ky xs (dw xs) := by
 obtain ⟨n, h1, h2, h3⟩ := CR xs h; have : dw xs = n := by unfold dw; rw [h1]; rfl
 rw [this]; exact ⟨h1, h2, h3⟩
structure oE (m : cK) : Prop where
 ring : lK m.2.1 m.2.2.1
 mem : (m.1, ()) ∈ m.2.2.1
 items : im m.2.2.2.1 m.2.2.2.1.length
 texts : m.2.2.2.2.2.1.length ≤ 20 ∧ m.2.2.2.2.1.length = m.2.2.2.2.2.1.length
 MK : ub m.2.2.2.2.1 m.2.2.2.2.1.length
 short : iA m.2.2.2.2.2.1 m.2.2.2.2.2.1.length
 round : 0 ≤ m.2.2.2.2.2.2.1 ∧ m.2.2.2.2.2.2.1 ≤ 1000000000
 seen : 0 ≤ m.2.2.2.2.2.2.2.1 ∧ m.2.2.2.2.2.2.2.1 ≤ 60
 line : 0 ≤ m.2.2.2.2.2.2.2.2.1 ∧ m.2.2.2.2.2.2.2.2.1 ≤ ((dw m.2.2.2.1 : Nat) : Int)
 heard : 0 ≤ m.2.2.2.2.2.2.2.2.2.1 ∧ m.2.2.2.2.2.2.2.2.2.1 ≤ ((dw m.2.2.2.1 : Nat) : Int)
 last : Blank (m.2.2.2.2.2.2.2.2.2.2.1, m.2.2.2.2.2.2.2.2.2.2.2.1, m.2.2.2.2.2.2.2.2.2.2.2.2.1, m.2.2.2.2.2.2.2.2.2.2.2.2.2.1, m.2.2.2.2.2.2.2.2.2.2.2.2.2.2.1, m.2.2.2.2.2.2.2.2.2.2.2.2.2.2.2.1, ()) ∨ yX (m.2.2.2.2.2.2.2.2.2.2.1, m.2.2.2.2.2.2.2.2.2.2.2.1, m.2.2.2.2.2.2.2.2.2.2.2.2.1, m.2.2.2.2.2.2.2.2.2.2.2.2.2.1, m.2.2.2.2.2.2.2.2.2.2.2.2.2.2.1, m.2.2.2.2.2.2.2.2.2.2.2.2.2.2.2.1, ())
def A3 (m : cK) : Nat := (List.length m.2.2.1 + wl F3 m.2.2.1) + (List.length m.2.2.2.1 + wl oD m.2.2.2.1) + (List.length m.2.2.2.2.1 + wl F3 m.2.2.2.2.1) + (List.length m.2.2.2.2.2.1 + wl Wf m.2.2.2.2.2.1) + (List.length m.2.2.2.2.2.2.2.2.2.2.2.2.2.2.2.1 + wl F3 m.2.2.2.2.2.2.2.2.2.2.2.2.2.2.2.1)
noncomputable def vH (m : cK) : Bool := match fb m.1 m.2.1 m.2.2.1 m.2.2.2.1 m.2.2.2.2.1 m.2.2.2.2.2.1 m.2.2.2.2.2.2.1 m.2.2.2.2.2.2.2.1 m.2.2.2.2.2.2.2.2.1 m.2.2.2.2.2.2.2.2.2.1 m.2.2.2.2.2.2.2.2.2.2.1 m.2.2.2.2.2.2.2.2.2.2.2.1 m.2.2.2.2.2.2.2.2.2.2.2.2.1 m.2.2.2.2.2.2.2.2.2.2.2.2.2.1 m.2.2.2.2.2.2.2.2.2.2.2.2.2.2.1 m.2.2.2.2.2.2.2.2.2.2.2.2.2.2.2.1 with | some x => x.1 | none => false
theorem xI (m : cK) (h0 : A3 m ≤ 1048576) : fb m.1 m.2.1 m.2.2.1 m.2.2.2.1 m.2.2.2.2.1 m.2.2.2.2.2.1 m.2.2.2.2.2.2.1 m.2.2.2.2.2.2.2.1 m.2.2.2.2.2.2.2.2.1 m.2.2.2.2.2.2.2.2.2.1 m.2.2.2.2.2.2.2.2.2.2.1 m.2.2.2.2.2.2.2.2.2.2.2.1 m.2.2.2.2.2.2.2.2.2.2.2.2.1 m.2.2.2.2.2.2.2.2.2.2.2.2.2.1 m.2.2.2.2.2.2.2.2.2.2.2.2.2.2.1 m.2.2.2.2.2.2.2.2.2.2.2.2.2.2.2.1 = some (vH m, ()) ∧ gU m.1 m.2.1 m.2.2.1 m.2.2.2.1 m.2.2.2.2.1 m.2.2.2.2.2.1 m.2.2.2.2.2.2.1 m.2.2.2.2.2.2.2.1 m.2.2.2.2.2.2.2.2.1 m.2.2.2.2.2.2.2.2.2.1 m.2.2.2.2.2.2.2.2.2.2.1 m.2.2.2.2.2.2.2.2.2.2.2.1 m.2.2.2.2.2.2.2.2.2.2.2.2.1 m.2.2.2.2.2.2.2.2.2.2.2.2.2.1 m.2.2.2.2.2.2.2.2.2.2.2.2.2.2.1 m.2.2.2.2.2.2.2.2.2.2.2.2.2.2.2.1 = some (vH m, ()) ∧ (vH m = true ↔ oE m) := by
 obtain ⟨b, k1, k2⟩ := HA m.1 m.2.1 m.2.2.1 m.2.2.2.1 m.2.2.2.2.1 m.2.2.2.2.2.1 m.2.2.2.2.2.2.1 m.2.2.2.2.2.2.2.1 m.2.2.2.2.2.2.2.2.1 m.2.2.2.2.2.2.2.2.2.1 m.2.2.2.2.2.2.2.2.2.2.1 m.2.2.2.2.2.2.2.2.2.2.2.1 m.2.2.2.2.2.2.2.2.2.2.2.2.1 m.2.2.2.2.2.2.2.2.2.2.2.2.2.1 m.2.2.2.2.2.2.2.2.2.2.2.2.2.2.1 m.2.2.2.2.2.2.2.2.2.2.2.2.2.2.2.1 h0; have hb : vH m = b := by unfold vH; rw [k1]
 rw [hb]; refine ⟨k1, k2, ?_⟩; unfold A3 at h0; obtain ⟨r1, _, r3⟩ := ld m.2.1 m.2.2.1 (by omega); have c1 := Bf m.2.2.1 m.1 (by omega); obtain ⟨i1, _, i3⟩ := vG m.2.2.2.1 (by omega); obtain ⟨b4, t1, t2⟩ := CS m.2.2.2.2.1 m.2.2.2.2.2.1 (by omega) (by omega); obtain ⟨a1, a2, a3⟩ := xH m.2.2.2.1 (by omega); have z1 : eg m.2.2.2.2.2.2.2.2.2.2.1 m.2.2.2.2.2.2.2.2.2.2.2.1 m.2.2.2.2.2.2.2.2.2.2.2.2.1 m.2.2.2.2.2.2.2.2.2.2.2.2.2.1 m.2.2.2.2.2.2.2.2.2.2.2.2.2.2.1 m.2.2.2.2.2.2.2.2.2.2.2.2.2.2.2.1 = some (m6 (m.2.2.2.2.2.2.2.2.2.2.1, m.2.2.2.2.2.2.2.2.2.2.2.1, m.2.2.2.2.2.2.2.2.2.2.2.2.1, m.2.2.2.2.2.2.2.2.2.2.2.2.2.1, m.2.2.2.2.2.2.2.2.2.2.2.2.2.2.1, m.2.2.2.2.2.2.2.2.2.2.2.2.2.2.2.1, ()), ()) := (qo (m.2.2.2.2.2.2.2.2.2.2.1, m.2.2.2.2.2.2.2.2.2.2.2.1, m.2.2.2.2.2.2.2.2.2.2.2.2.1, m.2.2.2.2.2.2.2.2.2.2.2.2.2.1, m.2.2.2.2.2.2.2.2.2.2.2.2.2.2.1, m.2.2.2.2.2.2.2.2.2.2.2.2.2.2.2.1, ())).1; have z3 := (qo (m.2.2.2.2.2.2.2.2.2.2.1, m.2.2.2.2.2.2.2.2.2.2.2.1, m.2.2.2.2.2.2.2.2.2.2.2.2.1, m.2.2.2.2.2.2.2.2.2.2.2.2.2.1, m.2.2.2.2.2.2.2.2.2.2.2.2.2.2.1, m.2.2.2.2.2.2.2.2.2.2.2.2.2.2.2.1, ())).2.2; have w1 : cM m.2.2.2.2.2.2.2.2.2.2.1 m.2.2.2.2.2.2.2.2.2.2.2.1 m.2.2.2.2.2.2.2.2.2.2.2.2.1 m.2.2.2.2.2.2.2.2.2.2.2.2.2.1 m.2.2.2.2.2.2.2.2.2.2.2.2.2.2.1 m.2.2.2.2.2.2.2.2.2.2.2.2.2.2.2.1 = some (DI (m.2.2.2.2.2.2.2.2.2.2.1, m.2.2.2.2.2.2.2.2.2.2.2.1, m.2.2.2.2.2.2.2.2.2.2.2.2.1, m.2.2.2.2.2.2.2.2.2.2.2.2.2.1, m.2.2.2.2.2.2.2.2.2.2.2.2.2.2.1, m.2.2.2.2.2.2.2.2.2.2.2.2.2.2.2.1, ()), ()) := (zN (m.2.2.2.2.2.2.2.2.2.2.1, m.2.2.2.2.2.2.2.2.2.2.2.1, m.2.2.2.2.2.2.2.2.2.2.2.2.1, m.2.2.2.2.2.2.2.2.2.2.2.2.2.1, m.2.2.2.2.2.2.2.2.2.2.2.2.2.2.1, m.2.2.2.2.2.2.2.2.2.2.2.2.2.2.2.1, ()) (by show m.2.2.2.2.2.2.2.2.2.2.2.2.2.2.2.1.length ≤ _; omega)).1; have w3 := (zN (m.2.2.2.2.2.2.2.2.2.2.1, m.2.2.2.2.2.2.2.2.2.2.2.1, m.2.2.2.2.2.2.2.2.2.2.2.2.1, m.2.2.2.2.2.2.2.2.2.2.2.2.2.1, m.2.2.2.2.2.2.2.2.2.2.2.2.2.2.1, m.2.2.2.2.2.2.2.2.2.2.2.2.2.2.2.1, ()) (by show m.2.2.2.2.2.2.2.2.2.2.2.2.2.2.2.1.length ≤ _; omega)).2.2; unfold fb at k1; simp only [r1, c1, i1, t1, a1, z1, w1, nM, Option.bind_some] at k1
 cases e1 : CU m.2.1 m.2.2.1
 · rw [e1] at k1; injection k1 with k1; injection k1 with k1 _; subst k1; exact ⟨fun h => (by cases h), fun h => by rw [r3.2 h.ring] at e1; cases e1⟩
 by_cases e2 : (m.1, ()) ∈ m.2.2.1
 case neg =>
   rw [e1, aj e2] at k1; injection k1 with k1; injection k1 with k1 _; subst k1; exact ⟨fun h => (by cases h), fun h => absurd h.mem e2⟩
 cases e3 : qn m.2.2.2.1
 · rw [e1, af e2, e3] at k1; injection k1 with k1; injection k1 with k1 _; subst k1; exact ⟨fun h => (by cases h), fun h => by rw [i3.2 h.items] at e3; cases e3⟩
 cases b4
 · rw [e1, af e2, e3] at k1; injection k1 with k1; injection k1 with k1 _; subst k1; exact ⟨fun h => (by cases h), fun h => by have := t2.2 ⟨h.texts.1, h.texts.2, h.MK, h.short⟩; cases this⟩
 rw [e1, af e2, e3] at k1; simp only [Bool.not_true, cond_false] at k1
 cases e5 : (decide ((0 : Int) ≤ m.2.2.2.2.2.2.1) && decide (m.2.2.2.2.2.2.1 ≤ 1000000000))
 · rw [e5] at k1; injection k1 with k1; injection k1 with k1 _; subst k1; exact ⟨fun h => (by cases h), fun h => by rw [Bg.2 h.round] at e5; cases e5⟩
 cases e6 : (decide ((0 : Int) ≤ m.2.2.2.2.2.2.2.1) && decide (m.2.2.2.2.2.2.2.1 ≤ 60))
 · rw [e5, e6] at k1; injection k1 with k1; injection k1 with k1 _; subst k1; exact ⟨fun h => (by cases h), fun h => by rw [Bg.2 h.seen] at e6; cases e6⟩
 cases e8 : (decide ((0 : Int) ≤ m.2.2.2.2.2.2.2.2.1) && decide (m.2.2.2.2.2.2.2.2.1 ≤ ((dw m.2.2.2.1 : Nat) : Int)))
 · rw [e5, e6, e8] at k1; injection k1 with k1; injection k1 with k1 _; subst k1; exact ⟨fun h => (by cases h), fun h => by rw [Bg.2 h.line] at e8; cases e8⟩
 cases e9 : (decide ((0 : Int) ≤ m.2.2.2.2.2.2.2.2.2.1) && decide (m.2.2.2.2.2.2.2.2.2.1 ≤ ((dw m.2.2.2.1 : Nat) : Int)))
 · rw [e5, e6, e8, e9] at k1; injection k1 with k1; injection k1 with k1 _; subst k1; exact ⟨fun h => (by cases h), fun h => by rw [Bg.2 h.heard] at e9; cases e9⟩
 rw [e5, e6, e8, e9] at k1; obtain ⟨t3, t4, t5, t6⟩ := t2.1 rfl; have mk : (Blank (m.2.2.2.2.2.2.2.2.2.2.1, m.2.2.2.2.2.2.2.2.2.2.2.1, m.2.2.2.2.2.2.2.2.2.2.2.2.1, m.2.2.2.2.2.2.2.2.2.2.2.2.2.1, m.2.2.2.2.2.2.2.2.2.2.2.2.2.2.1, m.2.2.2.2.2.2.2.2.2.2.2.2.2.2.2.1, ()) ∨ yX (m.2.2.2.2.2.2.2.2.2.2.1, m.2.2.2.2.2.2.2.2.2.2.2.1, m.2.2.2.2.2.2.2.2.2.2.2.2.1, m.2.2.2.2.2.2.2.2.2.2.2.2.2.1, m.2.2.2.2.2.2.2.2.2.2.2.2.2.2.1, m.2.2.2.2.2.2.2.2.2.2.2.2.2.2.2.1, ())) → oE m := fun hl => ⟨r3.1 e1, e2, i3.1 e3, ⟨t3, t4⟩, t5, t6, xG e5, xG e6, xG e8, xG e9, hl⟩
 cases Zf : m6 (m.2.2.2.2.2.2.2.2.2.2.1, m.2.2.2.2.2.2.2.2.2.2.2.1, m.2.2.2.2.2.2.2.2.2.2.2.2.1, m.2.2.2.2.2.2.2.2.2.2.2.2.2.1, m.2.2.2.2.2.2.2.2.2.2.2.2.2.2.1, m.2.2.2.2.2.2.2.2.2.2.2.2.2.2.2.1, ())
 · rw [Zf] at k1
   cases Zg : DI (m.2.2.2.2.2.2.2.2.2.2.1, m.2.2.2.2.2.2.2.2.2.2.2.1, m.2.2.2.2.2.2.2.2.2.2.2.2.1, m.2.2.2.2.2.2.2.2.2.2.2.2.2.1, m.2.2.2.2.2.2.2.2.2.2.2.2.2.2.1, m.2.2.2.2.2.2.2.2.2.2.2.2.2.2.2.1, ())
   · rw [Zg] at k1; injection k1 with k1; injection k1 with k1 _; subst k1; refine ⟨fun h => (by cases h), fun h => ?_⟩; rcases h.last with q | q
     · rw [z3.2 q] at Zf; cases Zf
     · rw [w3.2 q] at Zg; cases Zg
   · rw [Zg] at k1; injection k1 with k1; injection k1 with k1 _; subst k1; exact ⟨fun _ => mk (.inr (w3.1 Zg)), fun _ => rfl⟩
 · rw [Zf] at k1; injection k1 with k1; injection k1 with k1 _; subst k1; exact ⟨fun _ => mk (.inl (z3.1 Zf)), fun _ => rfl⟩
theorem oE.small {m : cK} (h : oE m) : A3 m ≤ 5000 := by
 have h1 := cf _ h.items; have h2 := AF _ h.short; have h3 := h.texts; have h4 := h.ring.2.1; have h5 : m.2.2.2.2.2.2.2.2.2.2.2.2.2.2.2.1.length ≤ 20 := by
   rcases h.last with q | q
   · rw [show m.2.2.2.2.2.2.2.2.2.2.2.2.2.2.2.1 = [] from q.2.2.2.2.2]; exact Nat.zero_le _
   · exact q.2.2.2.2.2.1
 unfold A3; rw [vX F3 (fun _ => rfl), vX F3 (fun _ => rfl), vX F3 (fun _ => rfl)]; omega
end Go.TM
set_option linter.unusedSimpArgs false
set_option linter.unusedVariables false
namespace Go.TM
open Go
def lR : aK → cH → aK
 | [], m => [m]
 | r :: xs, m => if r.1 < m.1 then r :: lR xs m else if r.1 = m.1 then r :: xs else m :: r :: xs
def Ml (xs : aK) : Prop := xs.Pairwise fun a b => a.1 < b.1
def kK (xs : aK) (m : cH) : Nat := (xs.takeWhile fun r => decide (r.1 < m.1)).length
theorem QD (xs : aK) (m : cH) : kK xs m ≤ xs.length := (List.takeWhile_sublist _).length_le
theorem zO (r : cH) (xs : aK) (m : cH) : kK (r :: xs) m = if r.1 < m.1 then kK xs m + 1 else 0 := by
 unfold kK; rw [List.takeWhile_cons]
 by_cases h : r.1 < m.1
 · simp [h]
 · simp [h]
theorem HC (m : cH) : (xs : aK) → lR xs m = if h : kK xs m < xs.length then (if xs[kK xs m].1 = m.1 then xs else xs.take (kK xs m) ++ ([m] ++ xs.drop (kK xs m))) else xs.take (kK xs m) ++ ([m] ++ xs.drop (kK xs m))
 | [] => rfl
 | r :: xs => by
   have ih := HC m xs; unfold lR
   by_cases h : r.1 < m.1
   · rw [if_pos h, ih]; have hp : kK (r :: xs) m = kK xs m + 1 := by rw [zO, if_pos h]
     by_cases h2 : kK xs m < xs.length
     · have h3 : kK (r :: xs) m < (r :: xs).length := by rw [hp, List.length_cons]; omega
       rw [dif_pos h2, dif_pos h3]; have e : (r :: xs)[kK (r :: xs) m] = xs[kK xs m] := by simp [hp]
       rw [e]
       by_cases h4 : xs[kK xs m].1 = m.1
       · rw [if_pos h4, if_pos h4]
       · rw [if_neg h4, if_neg h4, hp]; rfl
     · have h3 : ¬ kK (r :: xs) m < (r :: xs).length := by rw [hp, List.length_cons]; omega
       rw [dif_neg h2, dif_neg h3, hp]; rfl
   · rw [if_neg h]; have hp : kK (r :: xs) m = 0 := by rw [zO, if_neg h]
     have h3 : kK (r :: xs) m < (r :: xs).length := by rw [hp, List.length_cons]; omega
     rw [dif_pos h3]; have e : (r :: xs)[kK (r :: xs) m] = r := by simp [hp]
     rw [e, hp]; rfl
theorem OU {xs : aK} (h : im xs xs.length) : Ml xs := by
 have key : ∀ (d i : Nat) (hi : i + d + 1 < xs.length), xs[i].1 < xs[i + d + 1].1 := by
   intro d
   induction d with
   | zero => intro i hi; exact (h (i + 1) hi hi).2 (by omega)
   | succ d ih =>
     intro i hi; have h1 := ih i (by omega); have h2 := (h (i + (d + 1) + 1) hi hi).2 (by omega); have e : i + (d + 1) + 1 - 1 = i + d + 1 := by omega
     simp only [e] at h2; omega
 unfold Ml; rw [List.pairwise_iff_getElem]; intro i j hi hj Pp; have := key (j - i - 1) i (by omega); simpa [show i + (j - i - 1) + 1 = j by omega] using this
theorem OW {xs : aK} (h : Ml xs) (hi : ∀ r ∈ xs, kS r) : im xs xs.length := by
 intro k hk _; refine ⟨hi _ (List.getElem_mem hk), fun h0 => ?_⟩; unfold Ml at h; rw [List.pairwise_iff_getElem] at h; exact h (k - 1) k (by omega) hk (by omega)
theorem zP {xs : aK} (h : im xs xs.length) : ∀ r ∈ xs, kS r := by
 intro r hr; obtain ⟨k, hk, rfl⟩ := List.mem_iff_getElem.1 hr; exact (h k hk hk).1
theorem vI {r m : cH} : {xs : aK} → r ∈ lR xs m → r = m ∨ r ∈ xs
 | [], h => by
   unfold lR at h; exact .inl (List.mem_singleton.1 h)
 | x :: xs, h => by
   unfold lR at h
   split at h
   · rcases List.mem_cons.1 h with rfl | h
     · exact .inr List.mem_cons_self
     · exact (vI h).imp id (List.mem_cons_of_mem _)
   · split at h
     · exact .inr h
     · rcases List.mem_cons.1 h with rfl | h
       · exact .inl rfl
       · exact .inr h
theorem HD {m : cH} : {xs : aK} → Ml xs → Ml (lR xs m)
 | [], _ => by unfold lR Ml; simp
 | x :: xs, h => by
   unfold Ml at h; rw [List.pairwise_cons] at h; unfold lR
   split
   · rename_i bX; unfold Ml; rw [List.pairwise_cons]; refine ⟨fun y hy => ?_, HD h.2⟩; rcases vI hy with rfl | hy
     · exact bX
     · exact h.1 y hy
   · split
     · unfold Ml; rw [List.pairwise_cons]; exact h
     · unfold Ml; rw [List.pairwise_cons, List.pairwise_cons]; refine ⟨fun y hy => ?_, h⟩; rcases List.mem_cons.1 hy with rfl | hy
       · omega
       · have := h.1 y hy; omega
theorem CW {xs : aK} {m : cH} (h : im xs xs.length) (hm : kS m) : im (lR xs m) (lR xs m).length :=
 OW (HD (OU h)) fun r hr => (vI hr).elim (fun e => e ▸ hm) (zP h r)
def lL (xs : aK) (m : cH) : aK := xs.filter fun r => decide (r.1 < m.1)
def qp (xs : aK) (m : cH) : aK := xs.filter fun r => decide (m.1 < r.1)
def yY (xs : aK) (s : Int) : Bool := xs.any fun r => decide (r.1 = s)
theorem AH (m : cH) : (xs : aK) → Ml xs → lR xs m = bif yY xs m.1 then xs else lL xs m ++ [m] ++ qp xs m
 | [], _ => rfl
 | r :: xs, h => by
   unfold Ml at h; rw [List.pairwise_cons] at h; have ih := AH m xs h.2; unfold lR
   by_cases h1 : r.1 < m.1
   · rw [if_pos h1, ih]; have e1 : yY (r :: xs) m.1 = yY xs m.1 := by unfold yY; rw [List.any_cons, aj (show ¬ r.1 = m.1 by omega)]; rfl
     have e2 : lL (r :: xs) m = r :: lL xs m := by unfold lL; rw [List.filter_cons, if_pos (af h1)]
     have e3 : qp (r :: xs) m = qp xs m := by unfold qp; rw [List.filter_cons, if_neg (by rw [decide_eq_true_eq]; omega)]
     rw [e1, e2, e3]
     cases yY xs m.1 <;> rfl
   · rw [if_neg h1]
     by_cases h2 : r.1 = m.1
     · have e1 : yY (r :: xs) m.1 = true := by unfold yY; rw [List.any_cons, af h2]; rfl
       rw [if_pos h2, e1]; rfl
     · rw [if_neg h2]; have pK : ∀ y ∈ r :: xs, m.1 < y.1 := by
         intro y hy; rcases List.mem_cons.1 hy with rfl | hy
         · omega
         · have := h.1 y hy; omega
       have e1 : yY (r :: xs) m.1 = false := by
         unfold yY; rw [List.any_eq_false]; intro y hy; have := pK y hy; rw [decide_eq_true_eq]; omega
       have e2 : lL (r :: xs) m = [] := by
         unfold lL; rw [List.filter_eq_nil_iff]; intro y hy; have := pK y hy; rw [decide_eq_true_eq]; omega
       have e3 : qp (r :: xs) m = r :: xs := by
         unfold qp; rw [List.filter_eq_self]; intro y hy; exact af (pK y hy)
       rw [e1, e2, e3]; rfl
theorem yZ (xs : aK) (m : cH) (h : xs.length ≤ 1048576) (hi : qn xs = true) (hm : wA m = true) : gT xs m.1 m.2.1 m.2.2.1 m.2.2.2.1 = some (lR xs m, ()) := by
 obtain ⟨k1, _, k3⟩ := vG xs h; obtain ⟨q1, _, _⟩ := yW m; have hs := OU (k3.1 hi); have hlen : ∀ k, (lL (xs.take k) m).length ≤ k := fun k => Nat.le_trans (List.length_filter_le _ _) (by rw [List.length_take]; omega)
 have Hd : ∀ k, (qp (xs.take k) m).length ≤ k := fun k => Nat.le_trans (List.length_filter_le _ _) (by rw [List.length_take]; omega)
 have l1 := rU (round := gG) (n := xs.length) (fun k => (xs, m.1, m.2.1, m.2.2.1, m.2.2.2.1, xs, lL (xs.take k) m, ((k : Nat) : Int), ())) (fun k => some (bif yY (xs.drop k) m.1 then .inr (xs, ()) else .inl (xs, m.1, m.2.1, m.2.2.1, m.2.2.2.1, lL xs m, ())))
   ⟨.inl (xs, m.1, m.2.1, m.2.2.1, m.2.2.2.1, lL xs m, ()), by simp only [gG, n5, aD, cond_false, List.take_length], by rw [List.drop_length]; rfl⟩ (fun k hk => by
     have e : yY (xs.drop k) m.1 = (decide (xs[k].1 = m.1) || yY (xs.drop (k + 1)) m.1) := by unfold yY; rw [List.drop_eq_getElem_cons hk, List.any_cons]
     have e2 : lL (xs.take (k + 1)) m = lL (xs.take k) m ++ (if decide (xs[k].1 < m.1) = true then [xs[k]] else []) := by
       unfold lL; rw [List.take_succ_eq_append_getElem hk, List.filter_append, List.filter_cons]
       split <;> rfl
     have hb : Nat.ble (((lL (xs.take k) m).length + 1) * 40) lim = true := aF (by have := hlen k; unfold lim; omega); simp only [gG, n5, ax hk, ak, cond_true, au, List.getElem?_eq_getElem hk, Option.bind_some, aG (show k < 4611686018427387904 by omega), hb, e, e2]
     by_cases h1 : xs[k].1 = m.1
     · rw [af h1]; exact .inl ⟨_, rfl, rfl⟩
     · rw [aj h1]; refine .inr ⟨?_, rfl⟩
       by_cases h2 : xs[k].1 < m.1
       · rw [af h2]; rfl
       · rw [aj h2, if_neg (by decide), List.append_nil]; rfl) 0 (Nat.zero_le _)
 have l1 : aE gG (xs, m.1, m.2.1, m.2.2.1, m.2.2.2.1, xs, [], (0 : Int), ()) = _ := l1; rw [List.drop_zero] at l1; have l2 := cX (round := fx) (e := .inl (lL xs m ++ [m] ++ qp xs m, ())) xs.length (fun k => (xs, m.1, m.2.1, m.2.2.1, m.2.2.2.1, lL xs m ++ [m] ++ qp (xs.take k) m, ((k : Nat) : Int), ())) (by
   simp only [fx, n6, aD, cond_false, List.take_length]) (fun k hk => by
     have e2 : qp (xs.take (k + 1)) m = qp (xs.take k) m ++ (if decide (m.1 < xs[k].1) = true then [xs[k]] else []) := by
       unfold qp; rw [List.take_succ_eq_append_getElem hk, List.filter_append, List.filter_cons]
       split <;> rfl
     have hb : Nat.ble (((lL xs m ++ [m] ++ qp (xs.take k) m).length + 1) * 40) lim = true := aF (by
       have h1 := hlen xs.length; rw [List.take_length] at h1; have h2 := Hd k; simp only [List.length_append, List.length_cons, List.length_nil]; unfold lim; omega)
     simp only [fx, n6, ax hk, ak, cond_true, au, List.getElem?_eq_getElem hk, Option.bind_some, aG (show k < 4611686018427387904 by omega), hb, e2]
     by_cases h2 : m.1 < xs[k].1
     · rw [af h2, if_pos rfl, ← List.append_assoc]; rfl
     · rw [aj h2, if_neg (by decide), List.append_nil]; rfl)
 have l2 : aE fx (xs, m.1, m.2.1, m.2.2.1, m.2.2.2.1, lL xs m ++ [m] ++ qp (xs.take 0) m, (0 : Int), ()) = _ := l2; rw [show qp (xs.take 0) m = [] from rfl, List.append_nil] at l2; have Lj : Nat.ble ((0 + xs.length) * 40) lim = true := aF (by unfold lim; omega); have F0 : Nat.ble (((lL xs m).length + 1) * 40) lim = true := aF (by
   have h1 := hlen xs.length; rw [List.take_length] at h1; unfold lim; omega)
 rw [AH m xs hs]; unfold gT; simp only [k1, q1, hi, hm, Lj, cond_true, Bool.not_true, cond_false, Option.bind_some, List.nil_append, l1]
 cases yY xs m.1
 · have l3 : aE fx (xs, m.1, m.2.1, m.2.2.1, m.2.2.2.1, lL xs m ++ [(m.1, m.2.1, m.2.2.1, m.2.2.2.1, ())], (0 : Int), ()) = _ := l2; simp only [cond_false, cg, Option.bind_some, F0, cond_true, l3]
 · rfl
theorem za (xs : aK) (m : cH) (h : xs.length ≤ 1048576) : mo xs m.1 m.2.1 m.2.2.1 m.2.2.2.1 = some (lR xs m, ()) := by
 have l1 := rU (round := gI) (n := xs.length) (fun k => (xs, m.1, m.2.1, m.2.2.1, m.2.2.2.1, ((k : Nat) : Int), ())) (fun k => some (.inl (xs, m.1, m.2.1, m.2.2.1, m.2.2.2.1, ((k + kK (xs.drop k) m : Nat) : Int), ())))
   ⟨.inl (xs, m.1, m.2.1, m.2.2.1, m.2.2.2.1, ((xs.length : Nat) : Int), ()), by simp only [gI, om, aD, cond_false], by rw [List.drop_length]; rfl⟩ (fun k hk => by
     have e : kK (xs.drop k) m = if xs[k].1 < m.1 then kK (xs.drop (k + 1)) m + 1 else 0 := by rw [List.drop_eq_getElem_cons hk, zO]
     simp only [gI, om, ax hk, ak, cond_true, au, fH hk, List.getElem?_eq_getElem hk, Option.bind_some, aG (show k < 4611686018427387904 by omega), e]
     by_cases h1 : xs[k].1 < m.1
     · rw [af h1, if_pos h1]; exact .inr ⟨rfl, by rw [show k + (kK (xs.drop (k + 1)) m + 1) = k + 1 + kK (xs.drop (k + 1)) m by omega]⟩
     · rw [aj h1, if_neg h1]; exact .inl ⟨_, rfl, rfl⟩) 0 (Nat.zero_le _)
 have l1 : aE gI (xs, m.1, m.2.1, m.2.2.1, m.2.2.2.1, (0 : Int), ()) = _ := l1; rw [List.drop_zero, Nat.zero_add] at l1; have hp := QD xs m; have afa : Hs xs ((kK xs m : Nat) : Int) [(m.1, m.2.1, m.2.2.1, m.2.2.2.1, ())] = some (xs.take (kK xs m) ++ ([m] ++ xs.drop (kK xs m)), ()) := by
   unfold Hs; rw [ak, af (show ((kK xs m : Nat) : Int) ≤ ((xs.length : Nat) : Int) by omega), aF (show (xs.length + 1) * 40 ≤ lim by unfold lim; omega)]; rfl
 rw [HC]; unfold mo; simp only [l1, cg, afa, Option.bind_some]
 by_cases h1 : kK xs m < xs.length
 · simp only [dif_pos h1, ax h1, ak, au, fH h1, cond_true, List.getElem?_eq_getElem h1, Option.bind_some]
   by_cases h2 : xs[kK xs m].1 = m.1
   · rw [af h2, if_pos h2]; rfl
   · rw [aj h2, if_neg h2]; rfl
 · rw [dif_neg h1, aj (show ¬ ((kK xs m : Nat) : Int) < ((xs.length : Nat) : Int) by omega)]; rfl
noncomputable def Mm (xs : aK) (m : cH) : aK := bif qn xs && wA m then lR xs m else xs
theorem FH (xs : aK) (m : cH) (h : xs.length ≤ 1048576) : gT xs m.1 m.2.1 m.2.2.1 m.2.2.2.1 = some (Mm xs m, ()) ∧ pf xs m.1 m.2.1 m.2.2.1 m.2.2.2.1 = some (Mm xs m, ()) := by
 obtain ⟨k1, k2, _⟩ := vG xs h; obtain ⟨q1, q2, _⟩ := yW m; have Lj : Nat.ble ((0 + xs.length) * 40) lim = true := aF (by unfold lim; omega); unfold Mm
 constructor
 · cases hi : qn xs
   · unfold gT; simp only [k1, hi, Lj, cond_true, Option.bind_some]; rfl
   · cases hm : wA m
     · unfold gT; simp only [k1, q1, hi, hm, Lj, cond_true, Option.bind_some]; rfl
     · exact yZ xs m h hi hm
 · unfold pf; simp only [k2, q2, AG xs h, Option.bind_some, za xs m h]
   cases qn xs <;> cases wA m <;> rfl
def pA (m : cK) (xs : aK) : cK := (m.1, m.2.1, m.2.2.1, xs, m.2.2.2.2)
noncomputable def oF (m : cK) (x : cH) : cK := bif vH m then pA m (Mm m.2.2.2.1 x) else m
theorem CX (m : cK) (x : cH) (h : A3 m ≤ 1048576) : pV m.1 m.2.1 m.2.2.1 m.2.2.2.1 m.2.2.2.2.1 m.2.2.2.2.2.1 m.2.2.2.2.2.2.1 m.2.2.2.2.2.2.2.1 m.2.2.2.2.2.2.2.2.1 m.2.2.2.2.2.2.2.2.2.1 m.2.2.2.2.2.2.2.2.2.2.1 m.2.2.2.2.2.2.2.2.2.2.2.1 m.2.2.2.2.2.2.2.2.2.2.2.2.1 m.2.2.2.2.2.2.2.2.2.2.2.2.2.1 m.2.2.2.2.2.2.2.2.2.2.2.2.2.2.1 m.2.2.2.2.2.2.2.2.2.2.2.2.2.2.2.1 x.1 x.2.1 x.2.2.1 x.2.2.2.1 = some (oF m x) ∧ qe m.1 m.2.1 m.2.2.1 m.2.2.2.1 m.2.2.2.2.1 m.2.2.2.2.2.1 m.2.2.2.2.2.2.1 m.2.2.2.2.2.2.2.1 m.2.2.2.2.2.2.2.2.1 m.2.2.2.2.2.2.2.2.2.1 m.2.2.2.2.2.2.2.2.2.2.1 m.2.2.2.2.2.2.2.2.2.2.2.1 m.2.2.2.2.2.2.2.2.2.2.2.2.1 m.2.2.2.2.2.2.2.2.2.2.2.2.2.1 m.2.2.2.2.2.2.2.2.2.2.2.2.2.2.1 m.2.2.2.2.2.2.2.2.2.2.2.2.2.2.2.1 x.1 x.2.1 x.2.2.1 x.2.2.2.1 = some (oF m x) := by
 obtain ⟨k1, k2, _⟩ := xI m h; obtain ⟨p1, p2⟩ := lJ m.1 m.2.1 m.2.2.1 m.2.2.2.1 m.2.2.2.2.1 m.2.2.2.2.2.1 m.2.2.2.2.2.2.1 m.2.2.2.2.2.2.2.1 m.2.2.2.2.2.2.2.2.1 m.2.2.2.2.2.2.2.2.2.1 m.2.2.2.2.2.2.2.2.2.2.1 m.2.2.2.2.2.2.2.2.2.2.2.1 m.2.2.2.2.2.2.2.2.2.2.2.2.1 m.2.2.2.2.2.2.2.2.2.2.2.2.2.1 m.2.2.2.2.2.2.2.2.2.2.2.2.2.2.1 m.2.2.2.2.2.2.2.2.2.2.2.2.2.2.2.1 h; have hl : m.2.2.2.1.length ≤ 1048576 := by unfold A3 at h; omega
 obtain ⟨q1, q2⟩ := FH m.2.2.2.1 x hl; unfold oF
 constructor
 · unfold pV; simp only [p1, k1, q1, Option.bind_some]
   cases vH m <;> rfl
 · unfold qe; simp only [p2, k2, q2, Option.bind_some]
   cases vH m <;> rfl
end Go.TM
set_option linter.unusedSimpArgs false
set_option linter.unusedVariables false
namespace Go.TM
open Go
def Bh (xs : aK) (s : Int) : cH := ((np (dF xs s)).1, (np (dF xs s)).2.1, (np (dF xs s)).2.2.1, (np (dF xs s)).2.2.2.1, ())
def iM (xs : aK) (h : Int) (k : Nat) : aK := (List.range k).map fun j => Bh xs (h + ((j + 1 : Nat) : Int))
theorem m7 (xs : aK) (h : Int) (k : Nat) : (iM xs h k).length = k := by simp [iM]
theorem ra (xs : aK) (h : Int) (k : Nat) : iM xs h (k + 1) = iM xs h k ++ [Bh xs (h + ((k + 1 : Nat) : Int))] := by
 unfold iM; rw [List.range_succ, List.map_append]; rfl
def wB (xs : aK) (line s : Int) : Prop := (Bh xs s).2.2.1 = 2 ∧ line < (Bh xs s).1
theorem OX (m : cK) (h0 : A3 m ≤ 1048576) : ∃ (k : Nat) (v : Int), rZ m.1 m.2.1 m.2.2.1 m.2.2.2.1 m.2.2.2.2.1 m.2.2.2.2.2.1 m.2.2.2.2.2.2.1 m.2.2.2.2.2.2.2.1 m.2.2.2.2.2.2.2.2.1 m.2.2.2.2.2.2.2.2.2.1 m.2.2.2.2.2.2.2.2.2.2.1 m.2.2.2.2.2.2.2.2.2.2.2.1 m.2.2.2.2.2.2.2.2.2.2.2.2.1 m.2.2.2.2.2.2.2.2.2.2.2.2.2.1 m.2.2.2.2.2.2.2.2.2.2.2.2.2.2.1 m.2.2.2.2.2.2.2.2.2.2.2.2.2.2.2.1 = some (m.1, m.2.1, m.2.2.1, m.2.2.2.1, m.2.2.2.2.1, m.2.2.2.2.2.1, m.2.2.2.2.2.2.1, m.2.2.2.2.2.2.2.1, m.2.2.2.2.2.2.2.2.1, v, m.2.2.2.2.2.2.2.2.2.2.1, m.2.2.2.2.2.2.2.2.2.2.2.1, m.2.2.2.2.2.2.2.2.2.2.2.2.1, m.2.2.2.2.2.2.2.2.2.2.2.2.2.1, m.2.2.2.2.2.2.2.2.2.2.2.2.2.2.1, m.2.2.2.2.2.2.2.2.2.2.2.2.2.2.2.1, iM m.2.2.2.1 m.2.2.2.2.2.2.2.2.2.1 k, ()) ∧ px m.1 m.2.1 m.2.2.1 m.2.2.2.1 m.2.2.2.2.1 m.2.2.2.2.2.1 m.2.2.2.2.2.2.1 m.2.2.2.2.2.2.2.1 m.2.2.2.2.2.2.2.2.1 m.2.2.2.2.2.2.2.2.2.1 m.2.2.2.2.2.2.2.2.2.2.1 m.2.2.2.2.2.2.2.2.2.2.2.1 m.2.2.2.2.2.2.2.2.2.2.2.2.1 m.2.2.2.2.2.2.2.2.2.2.2.2.2.1 m.2.2.2.2.2.2.2.2.2.2.2.2.2.2.1 m.2.2.2.2.2.2.2.2.2.2.2.2.2.2.2.1 = some (m.1, m.2.1, m.2.2.1, m.2.2.2.1, m.2.2.2.2.1, m.2.2.2.2.2.1, m.2.2.2.2.2.2.1, m.2.2.2.2.2.2.2.1, m.2.2.2.2.2.2.2.2.1, v, m.2.2.2.2.2.2.2.2.2.2.1, m.2.2.2.2.2.2.2.2.2.2.2.1, m.2.2.2.2.2.2.2.2.2.2.2.2.1, m.2.2.2.2.2.2.2.2.2.2.2.2.2.1, m.2.2.2.2.2.2.2.2.2.2.2.2.2.2.1, m.2.2.2.2.2.2.2.2.2.2.2.2.2.2.2.1, iM m.2.2.2.1 m.2.2.2.2.2.2.2.2.2.1 k, ()) ∧ v = m.2.2.2.2.2.2.2.2.2.1 + ((k : Nat) : Int) ∧
   (vH m = false → k = 0) ∧ (vH m = true → v ≤ ((dw m.2.2.2.1 : Nat) : Int) ∧ (∀ j, j < k → ¬ wB m.2.2.2.1 m.2.2.2.2.2.2.2.2.1 (m.2.2.2.2.2.2.2.2.2.1 + ((j + 1 : Nat) : Int))) ∧ (v < ((dw m.2.2.2.1 : Nat) : Int) → wB m.2.2.2.1 m.2.2.2.2.2.2.2.2.1 (m.2.2.2.2.2.2.2.2.2.1 + ((k + 1 : Nat) : Int)))) := by
 obtain ⟨k1, k2, k3⟩ := xI m h0; obtain ⟨p1, p2⟩ := lJ m.1 m.2.1 m.2.2.1 m.2.2.2.1 m.2.2.2.2.1 m.2.2.2.2.2.1 m.2.2.2.2.2.2.1 m.2.2.2.2.2.2.2.1 m.2.2.2.2.2.2.2.2.1 m.2.2.2.2.2.2.2.2.2.1 m.2.2.2.2.2.2.2.2.2.2.1 m.2.2.2.2.2.2.2.2.2.2.2.1 m.2.2.2.2.2.2.2.2.2.2.2.2.1 m.2.2.2.2.2.2.2.2.2.2.2.2.2.1 m.2.2.2.2.2.2.2.2.2.2.2.2.2.2.1 m.2.2.2.2.2.2.2.2.2.2.2.2.2.2.2.1 h0; unfold rZ px; simp only [k1, k2, p1, p2, Option.bind_some]
 cases hb : vH m
 · exact ⟨0, m.2.2.2.2.2.2.2.2.2.1, rfl, rfl, by omega, (fun _ => rfl), (fun h => by cases h)⟩
 have hm := k3.1 hb; have hit := cf m.2.2.2.1 hm.items; have hl : m.2.2.2.1.length ≤ 1048576 := by omega
 obtain ⟨a1, a2, a3⟩ := xH m.2.2.2.1 hl; have hh := hm.heard; generalize hn : dw m.2.2.2.1 = n at a1 a2 a3 hh; have aiX : n ≤ 60 := Nat.le_trans a3.1 hit.1; obtain ⟨e, f, g1, g2, k, v, g3, g4, g5, g6, g7, g8⟩ : ∃ e f, aE mi (m.1, m.2.1, m.2.2.1, m.2.2.2.1, m.2.2.2.2.1, m.2.2.2.2.2.1, m.2.2.2.2.2.2.1, m.2.2.2.2.2.2.2.1, m.2.2.2.2.2.2.2.2.1, m.2.2.2.2.2.2.2.2.2.1, m.2.2.2.2.2.2.2.2.2.2.1, m.2.2.2.2.2.2.2.2.2.2.2.1, m.2.2.2.2.2.2.2.2.2.2.2.2.1, m.2.2.2.2.2.2.2.2.2.2.2.2.2.1, m.2.2.2.2.2.2.2.2.2.2.2.2.2.2.1, m.2.2.2.2.2.2.2.2.2.2.2.2.2.2.2.1, (0 : Int), (0 : Int), [], [], [], [], (0 : Int), (0 : Int), (0 : Int), (0 : Int), (0 : Int), (0 : Int), (0 : Int), (0 : Int), (0 : Int), [], m.1, m.2.1, m.2.2.1, m.2.2.2.1, m.2.2.2.2.1, m.2.2.2.2.2.1, m.2.2.2.2.2.2.1, m.2.2.2.2.2.2.2.1, m.2.2.2.2.2.2.2.2.1, m.2.2.2.2.2.2.2.2.2.1, m.2.2.2.2.2.2.2.2.2.2.1, m.2.2.2.2.2.2.2.2.2.2.2.1, m.2.2.2.2.2.2.2.2.2.2.2.2.1, m.2.2.2.2.2.2.2.2.2.2.2.2.2.1, m.2.2.2.2.2.2.2.2.2.2.2.2.2.2.1, m.2.2.2.2.2.2.2.2.2.2.2.2.2.2.2.1, [], ((n : Nat) : Int), ()) = some e ∧ aE mn (m.1, m.2.1, m.2.2.1, m.2.2.2.1, m.2.2.2.2.1, m.2.2.2.2.2.1, m.2.2.2.2.2.2.1, m.2.2.2.2.2.2.2.1, m.2.2.2.2.2.2.2.2.1, m.2.2.2.2.2.2.2.2.2.1, m.2.2.2.2.2.2.2.2.2.2.1, m.2.2.2.2.2.2.2.2.2.2.2.1, m.2.2.2.2.2.2.2.2.2.2.2.2.1, m.2.2.2.2.2.2.2.2.2.2.2.2.2.1, m.2.2.2.2.2.2.2.2.2.2.2.2.2.2.1, m.2.2.2.2.2.2.2.2.2.2.2.2.2.2.2.1, (0 : Int), (0 : Int), [], [], [], [], (0 : Int), (0 : Int), (0 : Int), (0 : Int), (0 : Int), (0 : Int), (0 : Int), (0 : Int), (0 : Int), [], m.1, m.2.1, m.2.2.1, m.2.2.2.1, m.2.2.2.2.1, m.2.2.2.2.2.1, m.2.2.2.2.2.2.1, m.2.2.2.2.2.2.2.1, m.2.2.2.2.2.2.2.2.1, m.2.2.2.2.2.2.2.2.2.1, m.2.2.2.2.2.2.2.2.2.2.1, m.2.2.2.2.2.2.2.2.2.2.2.1, m.2.2.2.2.2.2.2.2.2.2.2.2.1, m.2.2.2.2.2.2.2.2.2.2.2.2.2.1, m.2.2.2.2.2.2.2.2.2.2.2.2.2.2.1, m.2.2.2.2.2.2.2.2.2.2.2.2.2.2.2.1, [], ()) = some f ∧
     ∃ (k : Nat) (v : Int), (e = .inl ((0 : Int), (0 : Int), [], [], [], [], (0 : Int), (0 : Int), (0 : Int), (0 : Int), (0 : Int), (0 : Int), (0 : Int), (0 : Int), (0 : Int), [], m.1, m.2.1, m.2.2.1, m.2.2.2.1, m.2.2.2.2.1, m.2.2.2.2.2.1, m.2.2.2.2.2.2.1, m.2.2.2.2.2.2.2.1, m.2.2.2.2.2.2.2.2.1, v, m.2.2.2.2.2.2.2.2.2.2.1, m.2.2.2.2.2.2.2.2.2.2.2.1, m.2.2.2.2.2.2.2.2.2.2.2.2.1, m.2.2.2.2.2.2.2.2.2.2.2.2.2.1, m.2.2.2.2.2.2.2.2.2.2.2.2.2.2.1, m.2.2.2.2.2.2.2.2.2.2.2.2.2.2.2.1, iM m.2.2.2.1 m.2.2.2.2.2.2.2.2.2.1 k, ()) ∨ e = .inr (m.1, m.2.1, m.2.2.1, m.2.2.2.1, m.2.2.2.2.1, m.2.2.2.2.2.1, m.2.2.2.2.2.2.1, m.2.2.2.2.2.2.2.1, m.2.2.2.2.2.2.2.2.1, v, m.2.2.2.2.2.2.2.2.2.2.1, m.2.2.2.2.2.2.2.2.2.2.2.1, m.2.2.2.2.2.2.2.2.2.2.2.2.1, m.2.2.2.2.2.2.2.2.2.2.2.2.2.1, m.2.2.2.2.2.2.2.2.2.2.2.2.2.2.1, m.2.2.2.2.2.2.2.2.2.2.2.2.2.2.2.1, iM m.2.2.2.1 m.2.2.2.2.2.2.2.2.2.1 k, ())) ∧ f = .inl ((0 : Int), (0 : Int), [], [], [], [], (0 : Int), (0 : Int), (0 : Int), (0 : Int), (0 : Int), (0 : Int), (0 : Int), (0 : Int), (0 : Int), [], m.1, m.2.1, m.2.2.1, m.2.2.2.1, m.2.2.2.2.1, m.2.2.2.2.2.1, m.2.2.2.2.2.2.1, m.2.2.2.2.2.2.2.1, m.2.2.2.2.2.2.2.2.1, v, m.2.2.2.2.2.2.2.2.2.2.1, m.2.2.2.2.2.2.2.2.2.2.2.1, m.2.2.2.2.2.2.2.2.2.2.2.2.1, m.2.2.2.2.2.2.2.2.2.2.2.2.2.1, m.2.2.2.2.2.2.2.2.2.2.2.2.2.2.1, m.2.2.2.2.2.2.2.2.2.2.2.2.2.2.2.1, iM m.2.2.2.1 m.2.2.2.2.2.2.2.2.2.1 k, ()) ∧ v = m.2.2.2.2.2.2.2.2.2.1 + ((k : Nat) : Int) ∧ v ≤ ((n : Nat) : Int) ∧
       (∀ j, j < k → ¬ wB m.2.2.2.1 m.2.2.2.2.2.2.2.2.1 (m.2.2.2.2.2.2.2.2.2.1 + ((j + 1 : Nat) : Int))) ∧ (v < ((n : Nat) : Int) → wB m.2.2.2.1 m.2.2.2.2.2.2.2.2.1 (m.2.2.2.2.2.2.2.2.2.1 + ((k + 1 : Nat) : Int))) := by
   refine mb 60 (fun k x y => ∃ v : Int, x = (m.1, m.2.1, m.2.2.1, m.2.2.2.1, m.2.2.2.2.1, m.2.2.2.2.2.1, m.2.2.2.2.2.2.1, m.2.2.2.2.2.2.2.1, m.2.2.2.2.2.2.2.2.1, m.2.2.2.2.2.2.2.2.2.1, m.2.2.2.2.2.2.2.2.2.2.1, m.2.2.2.2.2.2.2.2.2.2.2.1, m.2.2.2.2.2.2.2.2.2.2.2.2.1, m.2.2.2.2.2.2.2.2.2.2.2.2.2.1, m.2.2.2.2.2.2.2.2.2.2.2.2.2.2.1, m.2.2.2.2.2.2.2.2.2.2.2.2.2.2.2.1, (0 : Int), (0 : Int), [], [], [], [], (0 : Int), (0 : Int), (0 : Int), (0 : Int), (0 : Int), (0 : Int), (0 : Int), (0 : Int), (0 : Int), [], m.1, m.2.1, m.2.2.1, m.2.2.2.1, m.2.2.2.2.1, m.2.2.2.2.2.1, m.2.2.2.2.2.2.1, m.2.2.2.2.2.2.2.1, m.2.2.2.2.2.2.2.2.1, v, m.2.2.2.2.2.2.2.2.2.2.1, m.2.2.2.2.2.2.2.2.2.2.2.1, m.2.2.2.2.2.2.2.2.2.2.2.2.1, m.2.2.2.2.2.2.2.2.2.2.2.2.2.1, m.2.2.2.2.2.2.2.2.2.2.2.2.2.2.1, m.2.2.2.2.2.2.2.2.2.2.2.2.2.2.2.1, iM m.2.2.2.1 m.2.2.2.2.2.2.2.2.2.1 k, ((n : Nat) : Int), ()) ∧ y = (m.1, m.2.1, m.2.2.1, m.2.2.2.1, m.2.2.2.2.1, m.2.2.2.2.2.1, m.2.2.2.2.2.2.1, m.2.2.2.2.2.2.2.1, m.2.2.2.2.2.2.2.2.1, m.2.2.2.2.2.2.2.2.2.1, m.2.2.2.2.2.2.2.2.2.2.1, m.2.2.2.2.2.2.2.2.2.2.2.1, m.2.2.2.2.2.2.2.2.2.2.2.2.1, m.2.2.2.2.2.2.2.2.2.2.2.2.2.1, m.2.2.2.2.2.2.2.2.2.2.2.2.2.2.1, m.2.2.2.2.2.2.2.2.2.2.2.2.2.2.2.1, (0 : Int), (0 : Int), [], [], [], [], (0 : Int), (0 : Int), (0 : Int), (0 : Int), (0 : Int), (0 : Int), (0 : Int), (0 : Int), (0 : Int), [], m.1, m.2.1, m.2.2.1, m.2.2.2.1, m.2.2.2.2.1, m.2.2.2.2.2.1, m.2.2.2.2.2.2.1, m.2.2.2.2.2.2.2.1, m.2.2.2.2.2.2.2.2.1, v, m.2.2.2.2.2.2.2.2.2.2.1, m.2.2.2.2.2.2.2.2.2.2.2.1, m.2.2.2.2.2.2.2.2.2.2.2.2.1, m.2.2.2.2.2.2.2.2.2.2.2.2.2.1, m.2.2.2.2.2.2.2.2.2.2.2.2.2.2.1, m.2.2.2.2.2.2.2.2.2.2.2.2.2.2.2.1, iM m.2.2.2.1 m.2.2.2.2.2.2.2.2.2.1 k, ()) ∧ v = m.2.2.2.2.2.2.2.2.2.1 + ((k : Nat) : Int) ∧ v ≤ ((n : Nat) : Int) ∧ ∀ j, j < k → ¬ wB m.2.2.2.1 m.2.2.2.2.2.2.2.2.1 (m.2.2.2.2.2.2.2.2.2.1 + ((j + 1 : Nat) : Int))) _ ?_ ⟨m.2.2.2.2.2.2.2.2.2.1, rfl, rfl, by omega, hh.2, fun j h => by omega⟩
   rintro k x y hk ⟨v, rfl, rfl, q1, q2, q3⟩
   by_cases bX : v < ((n : Nat) : Int)
   · have hw : IntKind.i64.wrap (v + (1 : Int)) = m.2.2.2.2.2.2.2.2.2.1 + ((k + 1 : Nat) : Int) := by rw [fO] <;> omega
     have ZZ : Nat.ble (((iM m.2.2.2.1 m.2.2.2.2.2.2.2.2.2.1 k).length + 1) * 40) lim = true := aF (by rw [m7]; unfold lim; omega); have more : ¬ wB m.2.2.2.1 m.2.2.2.2.2.2.2.2.1 (m.2.2.2.2.2.2.2.2.2.1 + ((k + 1 : Nat) : Int)) → ∀ j, j < k + 1 → ¬ wB m.2.2.2.1 m.2.2.2.2.2.2.2.2.1 (m.2.2.2.2.2.2.2.2.2.1 + ((j + 1 : Nat) : Int)) := fun hnw j hj => by
       by_cases e : j < k
       · exact q3 j e
       · have : j = k := by omega
         subst this; exact hnw
     simp only [mi, sL, mn, tu, af bX, a2, hw, q8 m.2.2.2.1 _ hl, q9 m.2.2.2.1 _ hl, Option.bind_some, cond_true, ZZ]
     by_cases c1 : (np (dF m.2.2.2.1 (m.2.2.2.2.2.2.2.2.2.1 + ((k + 1 : Nat) : Int)))).2.2.1 = 2
     · rw [af c1]
       by_cases c2 : m.2.2.2.2.2.2.2.2.1 < (np (dF m.2.2.2.1 (m.2.2.2.2.2.2.2.2.2.1 + ((k + 1 : Nat) : Int)))).1
       · rw [af c2]; exact .inl ⟨_, _, rfl, rfl, k, v, .inr rfl, rfl, q1, q2, q3, fun _ => ⟨c1, c2⟩⟩
       · rw [aj c2]; exact .inr ⟨by omega, _, _, rfl, rfl, m.2.2.2.2.2.2.2.2.2.1 + ((k + 1 : Nat) : Int), by rw [ra]; rfl, by rw [ra]; rfl, rfl, by omega, more fun h => c2 h.2⟩
     · rw [aj c1]; exact .inr ⟨by omega, _, _, rfl, rfl, m.2.2.2.2.2.2.2.2.2.1 + ((k + 1 : Nat) : Int), by rw [ra]; rfl, by rw [ra]; rfl, rfl, by omega, more fun h => c1 h.1⟩
   · simp only [mi, sL, mn, tu, aj bX, a2, Option.bind_some, cond_false]; exact .inl ⟨_, _, rfl, rfl, k, v, .inl rfl, rfl, q1, q2, q3, fun h => absurd h bX⟩
 simp only [a1, Option.bind_some, Bool.not_true, cond_false]; rw [g1, g2, g4]; refine ⟨k, v, ?_, rfl, g5, (fun h => by cases h), (fun _ => ⟨by first | exact g6 | (rw [hn]; exact g6), g7, fun h => g8 (by first | exact h | (rw [hn] at h; exact h))⟩)⟩; rcases g3 with rfl | rfl
 · rfl
 · rfl
end Go.TM
set_option linter.unusedSimpArgs false
set_option linter.unusedVariables false
namespace Go.TM
open Go
def OY {A B C : Type} (P : A → Prop) : Sum A B → Sum A C → Prop
 | .inl a, .inl b => a = b ∧ P a
 | _, _ => False
theorem FI (cI : Int) (cJ : Int) (a8 : Int) (cr : Int) (cA : Int) (bZ : List (Int × Unit)) (bf : Int) (ck : List (Int × Unit)) (aI : List (ByteArray × Unit)) (h0 : List.length bZ ≤ 1048576) : ∃ o0 o1 o2 o3 o4 o5 o6, nL cI cJ a8 cr cA bZ bf ck aI = some (o0, o1, o2, o3, o4, o5, o6, ()) ∧ kg cI cJ a8 cr cA bZ bf ck aI = some (o0, o1, o2, o3, o4, o5, o6, ()) ∧ o5 = bZ ∧ (List.length o6 + wl oD o6) ≤ 1048576 := by
 obtain ⟨b, k1, k2, k3⟩ := tO cI cJ a8 cr cA bZ (by omega); obtain ⟨c1, c2⟩ := fU cI cJ a8 cr cA bZ (by omega); have hm : (if (3 : Int) < ((List.length aI : Nat) : Int) then (3 : Int) else ((List.length aI : Nat) : Int)) = ((min 3 aI.length : Nat) : Int) := by split <;> omega
 unfold nL kg; simp only [k1, k2, c1, c2, nM, py, Option.bind_some]
 cases b
 · cases (decide (1 ≤ bf) && decide (bf ≤ 5))
   · exact ⟨_, _, _, _, _, bZ, [], rfl, rfl, rfl, by decide⟩
   · exact ⟨_, _, _, _, _, bZ, [], rfl, rfl, rfl, by decide⟩
 cases (decide (1 ≤ bf) && decide (bf ≤ 5))
 · exact ⟨_, _, _, _, _, bZ, [], rfl, rfl, rfl, by decide⟩
 obtain ⟨z1, z2, z3, z4, z5, z6⟩ := k3 rfl; have PG : (aI.take (min 3 aI.length)).length = min 3 aI.length := by simp
 simp only [Bool.not_true, cond_false, hm, au, ak, cond_true, List.drop_zero, PG, af (show ((min 3 aI.length : Nat) : Int) ≤ ((List.length aI : Nat) : Int) by omega)]; obtain ⟨e, f, g1, g2, g3⟩ : ∃ e f, aE iH (bf, ck, aI, cI, cJ, a8, cr, cA, bZ, (0 : Int), (0 : Int), (0 : Int), (0 : Int), (0 : Int), [], cI, cJ, a8, cr, cA, bZ, [], (0 : Int), ()) = some e ∧
     aE db (bf, ck, cI, cJ, a8, cr, cA, bZ, (0 : Int), (0 : Int), (0 : Int), (0 : Int), (0 : Int), [], cI, cJ, a8, cr, cA, bZ, [], aI.take (min 3 aI.length), ((min 3 aI.length : Nat) : Int), (0 : Int), ()) = some f ∧
     OY (fun v => ∃ (q : Int) (l : aK), v = (cI, cJ, a8, cr, cA, bZ, (0 : Int), (0 : Int), (0 : Int), (0 : Int), (0 : Int), [], cI, cJ, q, cr, cA, bZ, l, ()) ∧ l.length ≤ 3 ∧ wl oD l ≤ 180) e f := by
   refine mb 3 (fun k x y => ∃ l : aK, x = (bf, ck, aI, cI, cJ, a8, cr, cA, bZ, (0 : Int), (0 : Int), (0 : Int), (0 : Int), (0 : Int), [], cI, cJ, a8 + ((k : Nat) : Int), cr, cA, bZ, l, ((k : Nat) : Int), ()) ∧
     y = (bf, ck, cI, cJ, a8, cr, cA, bZ, (0 : Int), (0 : Int), (0 : Int), (0 : Int), (0 : Int), [], cI, cJ, a8 + ((k : Nat) : Int), cr, cA, bZ, l, aI.take (min 3 aI.length), ((min 3 aI.length : Nat) : Int), ((k : Nat) : Int), ()) ∧ l.length = k ∧ wl oD l ≤ 60 * k) _ ?_ ⟨[], by rw [show a8 + ((0 : Nat) : Int) = a8 by omega]; rfl, by rw [show a8 + ((0 : Nat) : Int) = a8 by omega]; rfl, rfl, Nat.le_refl _⟩
   rintro k x y hk ⟨l, rfl, rfl, q1, q2⟩
   have stop : ∀ {A B : Type} (u : Sum _ A) (v : Sum _ B), u = .inl (cI, cJ, a8, cr, cA, bZ, (0 : Int), (0 : Int), (0 : Int), (0 : Int), (0 : Int), ([] : List (Int × Unit)), cI, cJ, a8 + ((k : Nat) : Int), cr, cA, bZ, l, ()) → v = .inl (cI, cJ, a8, cr, cA, bZ, (0 : Int), (0 : Int), (0 : Int), (0 : Int), (0 : Int), ([] : List (Int × Unit)), cI, cJ, a8 + ((k : Nat) : Int), cr, cA, bZ, l, ()) →
       OY (fun v => ∃ (q : Int) (l : aK), v = (cI, cJ, a8, cr, cA, bZ, (0 : Int), (0 : Int), (0 : Int), (0 : Int), (0 : Int), ([] : List (Int × Unit)), cI, cJ, q, cr, cA, bZ, l, ()) ∧ l.length ≤ 3 ∧ wl oD l ≤ 180) u v := by
     intro A B u v e1 e2; subst e1 e2; exact ⟨rfl, _, l, rfl, by omega, by omega⟩
   by_cases h1 : k < aI.length
   · by_cases h4 : k < 3
     · have VB : k < min 3 aI.length := by omega
       have AS : (aI.take (min 3 aI.length))[k]? = some aI[k] := by rw [List.getElem?_take_of_lt VB]; exact List.getElem?_eq_getElem h1
       have e1 : IntKind.i64.wrap ((a8 + ((k : Nat) : Int)) + (1 : Int)) = a8 + ((k + 1 : Nat) : Int) := by rw [fO] <;> omega
       simp only [iH, mj, db, fi, ax h1, ax VB, af (show ((k : Nat) : Int) < (3 : Int) by omega), ak, cond_true, au, List.getElem?_eq_getElem h1, AS, Option.bind_some, e1, aF (show (l.length + 1) * 40 ≤ lim by unfold lim; omega), aG (show k < 4611686018427387904 by omega)]
       by_cases h5 : a8 + ((k : Nat) : Int) < 60
       · rw [af h5, aj (show ¬ (60 : Int) ≤ a8 + ((k : Nat) : Int) by omega)]
         by_cases h6 : ((ByteArray.size aI[k].1 : Nat) : Int) ≤ 60
         · rw [af h6, aj (show ¬ (60 : Int) < ((ByteArray.size aI[k].1 : Nat) : Int) by omega)]; have add : ∀ lv : Int, wl oD (l ++ [(a8 + ((k + 1 : Nat) : Int), bf, lv, aI[k].1, ())]) ≤ 60 * (k + 1) := by
             intro lv; rw [SE]; have : wl oD [(a8 + ((k + 1 : Nat) : Int), bf, lv, aI[k].1, ())] = ByteArray.size aI[k].1 := rfl; omega
           by_cases h7 : k < ck.length
           · rw [ax h7]; simp only [cond_true, cond_false, List.getElem?_eq_getElem h7, Option.bind_some]
             cases decide (ck[k].1 = 2)
             · exact .inr ⟨h4, _, _, rfl, rfl, _, rfl, rfl, by simp [q1], add 1⟩
             · exact .inr ⟨h4, _, _, rfl, rfl, _, rfl, rfl, by simp [q1], add 2⟩
           · rw [aj (show ¬ ((k : Nat) : Int) < ((List.length ck : Nat) : Int) by omega)]; exact .inr ⟨h4, _, _, rfl, rfl, _, rfl, rfl, by simp [q1], add 1⟩
         · rw [aj h6, af (show (60 : Int) < ((ByteArray.size aI[k].1 : Nat) : Int) by omega)]; exact .inl ⟨_, _, rfl, rfl, stop _ _ rfl rfl⟩
       · rw [aj h5, af (show (60 : Int) ≤ a8 + ((k : Nat) : Int) by omega)]; exact .inl ⟨_, _, rfl, rfl, stop _ _ rfl rfl⟩
     · have ZB : k = 3 := by omega
       refine .inl ⟨_, _, ?_, ?_, stop _ _ rfl rfl⟩
       · simp only [iH, mj, ax h1, aj (show ¬ ((k : Nat) : Int) < (3 : Int) by omega), cond_true, cond_false]
       · simp only [db, fi, aj (show ¬ ((k : Nat) : Int) < ((min 3 aI.length : Nat) : Int) by omega), cond_false]
   · refine .inl ⟨_, _, ?_, ?_, stop _ _ rfl rfl⟩
     · simp only [iH, mj, aj (show ¬ ((k : Nat) : Int) < ((List.length aI : Nat) : Int) by omega), cond_false]
     · simp only [db, fi, aj (show ¬ ((k : Nat) : Int) < ((min 3 aI.length : Nat) : Int) by omega), cond_false]
 rw [g1, g2]
 cases e with
 | inr e => exact g3.elim
 | inl e => cases f with
   | inr f => exact g3.elim
   | inl f =>
     obtain ⟨rfl, q, l, rfl, q1, q2⟩ := g3; simp only [jd]
     cases decide (cr = a8)
     · exact ⟨_, _, _, _, _, bZ, l, rfl, rfl, rfl, by omega⟩
     · cases decide (cA = 0)
       · exact ⟨_, _, _, _, _, bZ, l, rfl, rfl, rfl, by omega⟩
       · exact ⟨_, _, _, _, _, bZ, l, rfl, rfl, rfl, by omega⟩
end Go.TM
set_option linter.unusedSimpArgs false
set_option linter.unusedVariables false
namespace Go.TM
open Go
def ph (c2 from_ : Int) (level : List (Int × Unit)) (texts : List (ByteArray × Unit)) (j : Nat) : cH :=
 (c2 + ((j + 1 : Nat) : Int), from_, (bif decide (j < level.length) && decide ((level.getD j ((0 : Int), ())).1 = 2) then 2 else 1), (texts.getD j (ByteArray.empty, ())).1, ())
def de (c2 from_ : Int) (level : List (Int × Unit)) (texts : List (ByteArray × Unit)) (m : Nat) : aK := (List.range m).map (ph c2 from_ level texts)
theorem fV (c2 from_ : Int) (level : List (Int × Unit)) (texts : List (ByteArray × Unit)) (m : Nat) : (de c2 from_ level texts m).length = m := by simp [de]
theorem DJ (c2 from_ : Int) (level : List (Int × Unit)) (texts : List (ByteArray × Unit)) (m : Nat) : de c2 from_ level texts (m + 1) = de c2 from_ level texts m ++ [ph c2 from_ level texts m] := by
 unfold de; rw [List.range_succ, List.map_append]; rfl
def Bi (c2 : Int) (texts : List (ByteArray × Unit)) (m : Nat) : Prop := m = min 3 texts.length ∨ 60 ≤ c2 + ((m : Nat) : Int) ∨ ∃ h : m < texts.length, 60 < ByteArray.size texts[m].1
theorem JG (cI : Int) (cJ : Int) (a8 : Int) (cr : Int) (cA : Int) (bZ : List (Int × Unit)) (bf : Int) (ck : List (Int × Unit)) (aI : List (ByteArray × Unit)) (h0 : List.length bZ ≤ 1048576) (h3 : List.length aI ≤ 1048576) (hd : 1 ≤ bf ∧ bf ≤ 5) (ht : Vz cI cJ a8 cr cA bZ) :
   ∃ m t3, kg cI cJ a8 cr cA bZ bf ck aI = some (cI, cJ, a8 + ((m : Nat) : Int), t3, cA, bZ, de a8 bf ck aI m, ()) ∧ m ≤ 3 ∧ m ≤ aI.length ∧ a8 + ((m : Nat) : Int) ≤ 60 ∧ (t3 = cr ∨ t3 = a8 + ((m : Nat) : Int)) ∧ Bi a8 aI m ∧ t3 = (if cr = a8 ∧ cA = 0 then a8 + ((m : Nat) : Int) else cr) := by
 obtain ⟨b, _, k2, k3⟩ := Eu cI cJ a8 cr cA bZ h0; have hb := k3.2 ht; subst hb; obtain ⟨_, c2⟩ := fU cI cJ a8 cr cA bZ h0; obtain ⟨_, _, z2, z3, _⟩ := ht; have hm : (if (3 : Int) < ((List.length aI : Nat) : Int) then (3 : Int) else ((List.length aI : Nat) : Int)) = ((min 3 aI.length : Nat) : Int) := by split <;> omega
 have PG : (aI.take (min 3 aI.length)).length = min 3 aI.length := by simp
 unfold kg; simp only [k2, c2, py, af hd.1, af hd.2, Bool.and_self, Option.bind_some, Bool.not_true, cond_false, hm, au, ak, cond_true, List.drop_zero, PG, af (show ((min 3 aI.length : Nat) : Int) ≤ ((List.length aI : Nat) : Int) by omega)]; have fin : ∀ (k : Nat), ∃ v : Int × Int × Int × Int × Int × (List (Int × Unit)) × Int × Int × Int × Int × Int × (List (Int × Unit)) × Int × Int × Int × Int × Int × (List (Int × Unit)) × aK × Unit, v = (cI, cJ, a8, cr, cA, bZ, (0 : Int), (0 : Int), (0 : Int), (0 : Int), (0 : Int), [], cI, cJ, a8 + ((k : Nat) : Int), cr, cA, bZ, de a8 bf ck aI k, ()) := fun k => ⟨_, rfl⟩
 obtain ⟨e, g1, m, g2, g3, g4, g5, g6⟩ : ∃ e, aE db (bf, ck, cI, cJ, a8, cr, cA, bZ, (0 : Int), (0 : Int), (0 : Int), (0 : Int), (0 : Int), [], cI, cJ, a8, cr, cA, bZ, [], aI.take (min 3 aI.length), ((min 3 aI.length : Nat) : Int), (0 : Int), ()) = some e ∧
     ∃ m : Nat, e = .inl (cI, cJ, a8, cr, cA, bZ, (0 : Int), (0 : Int), (0 : Int), (0 : Int), (0 : Int), [], cI, cJ, a8 + ((m : Nat) : Int), cr, cA, bZ, de a8 bf ck aI m, ()) ∧ m ≤ 3 ∧ m ≤ aI.length ∧ a8 + ((m : Nat) : Int) ≤ 60 ∧ Bi a8 aI m := by
   refine ev (min 3 aI.length) (fun k x => x = (bf, ck, cI, cJ, a8, cr, cA, bZ, (0 : Int), (0 : Int), (0 : Int), (0 : Int), (0 : Int), [], cI, cJ, a8 + ((k : Nat) : Int), cr, cA, bZ, de a8 bf ck aI k, aI.take (min 3 aI.length), ((min 3 aI.length : Nat) : Int), ((k : Nat) : Int), ()) ∧ a8 + ((k : Nat) : Int) ≤ 60) _ ?_ ?_ ⟨by rw [show a8 + ((0 : Nat) : Int) = a8 by omega]; rfl, by omega⟩
   · rintro x ⟨rfl, q⟩
     exact ⟨_, by simp only [db, fi, aD, cond_false], _, rfl, by omega, by omega, q, .inl rfl⟩
   · rintro k x VB ⟨rfl, q⟩
     have h1 : k < aI.length := by omega
     have AS : (aI.take (min 3 aI.length))[k]? = some aI[k] := by rw [List.getElem?_take_of_lt VB]; exact List.getElem?_eq_getElem h1
     have hgt : (aI.getD k (ByteArray.empty, ())).1 = aI[k].1 := by rw [List.getD_eq_getElem?_getD, List.getElem?_eq_getElem h1, Option.getD_some]
     have stop : Bi a8 aI k → ∃ m : Nat, (.inl (cI, cJ, a8, cr, cA, bZ, (0 : Int), (0 : Int), (0 : Int), (0 : Int), (0 : Int), [], cI, cJ, a8 + ((k : Nat) : Int), cr, cA, bZ, de a8 bf ck aI k, ()) : Sum _ Unit) = .inl (cI, cJ, a8, cr, cA, bZ, (0 : Int), (0 : Int), (0 : Int), (0 : Int), (0 : Int), ([] : List (Int × Unit)), cI, cJ, a8 + ((m : Nat) : Int), cr, cA, bZ, de a8 bf ck aI m, ()) ∧ m ≤ 3 ∧ m ≤ aI.length ∧ a8 + ((m : Nat) : Int) ≤ 60 ∧ Bi a8 aI m :=
       fun hq => ⟨k, rfl, by omega, by omega, q, hq⟩
     by_cases h5 : (60 : Int) ≤ a8 + ((k : Nat) : Int)
     · refine .inl ⟨_, ?_, stop (.inr (.inl h5))⟩; simp only [db, fi, ax VB, ak, cond_true, au, AS, Option.bind_some, af h5]
     have e1 : IntKind.i64.wrap ((a8 + ((k : Nat) : Int)) + (1 : Int)) = a8 + ((k + 1 : Nat) : Int) := by rw [fO] <;> omega
     by_cases h6 : (60 : Int) < ((ByteArray.size aI[k].1 : Nat) : Int)
     · refine .inl ⟨_, ?_, stop (.inr (.inr ⟨h1, by omega⟩))⟩; simp only [db, fi, ax VB, ak, cond_true, cond_false, au, AS, Option.bind_some, aj h5, af h6]
     refine .inr ⟨_, ?_, rfl, by omega⟩; have hlen := fV a8 bf ck aI k; simp only [db, fi, ax VB, ak, cond_true, cond_false, au, AS, Option.bind_some, aj h5, aj h6, e1, hlen, aF (show (k + 1) * 40 ≤ lim by unfold lim; omega), aG (show k < 4611686018427387904 by omega)]; rw [DJ]; unfold ph; rw [hgt]
     by_cases h7 : k < ck.length
     · have hgl : ck.getD k ((0 : Int), ()) = ck[k] := by rw [List.getD_eq_getElem?_getD, List.getElem?_eq_getElem h7, Option.getD_some]
       rw [ax h7, af h7, hgl]; simp only [cond_true, List.getElem?_eq_getElem h7, Option.bind_some, Bool.true_and]
       cases decide (ck[k].1 = 2) <;> rfl
     · rw [aj (show ¬ ((k : Nat) : Int) < ((List.length ck : Nat) : Int) by omega), aj h7]; rfl
 rw [g1]; subst g2; simp only [jd]
 by_cases w1 : cr = a8
 · rw [af w1]
   by_cases w2 : cA = 0
   · rw [af w2]; exact ⟨m, _, rfl, g3, g4, g5, .inr rfl, g6, by rw [if_pos ⟨w1, w2⟩]⟩
   · rw [aj w2]; exact ⟨m, _, rfl, g3, g4, g5, .inl rfl, g6, by rw [if_neg (fun h => w2 h.2)]⟩
 · rw [aj w1]; exact ⟨m, _, rfl, g3, g4, g5, .inl rfl, g6, by rw [if_neg (fun h => w1 h.1)]⟩
end Go.TM
set_option linter.unusedSimpArgs false
set_option linter.unusedVariables false
namespace Go.TM
open Go
def AI (c2 c3 c4 d a : Int) : Int := if a < c3 then a else if c4 = d then (if c2 < a then c2 else a) else c3
def AJ (c2 c3 c4 d a : Int) : Int := if a < c3 then d else if c4 = d then (if c2 ≤ a then 0 else c4) else c4
theorem OZ (c0 c1 c2 c3 c4 : Int) (xs : List (Int × Unit)) (d a : Int) (h : xs.length ≤ 1048576) {b : Bool} (hb : cM c0 c1 c2 c3 c4 xs = some (b, ())) :
   ∃ t3 t4, sb c0 c1 c2 c3 c4 xs d a = some (c0, c1, c2, t3, t4, xs, ()) ∧ sg c0 c1 c2 c3 c4 xs d a = some (c0, c1, c2, t3, t4, xs, ()) ∧
     (b = false ∨ d < 1 ∨ 5 < d ∨ a < 0 → t3 = c3 ∧ t4 = c4) ∧ (b = true → 1 ≤ d → d ≤ 5 → 0 ≤ a → 0 ≤ c3 → c3 ≤ c2 → 0 ≤ t3 ∧ t3 ≤ c2 ∧ t3 ≤ a ∧ (t3 ≤ c3 ∨ c4 = d) ∧ (t4 = c4 ∨ t4 = d ∨ (t4 = 0 ∧ c4 = d))) ∧ (b = true → 1 ≤ d → d ≤ 5 → 0 ≤ a → t3 = AI c2 c3 c4 d a ∧ t4 = AJ c2 c3 c4 d a) := by
 obtain ⟨b', h1, h2, _⟩ := tO c0 c1 c2 c3 c4 xs h; rw [hb] at h1; obtain rfl : b = b' := by injection h1 with h1; injection h1
 obtain ⟨h3, h4⟩ := fU c0 c1 c2 c3 c4 xs h; unfold sb sg; simp only [Option.bind_some, hb, h2, h3, h4, nM, py]
 cases b
 · have : ∀ t3 t4 : Int, t3 = c3 → t4 = c4 → (false = false ∨ d < 1 ∨ 5 < d ∨ a < 0 → t3 = c3 ∧ t4 = c4) ∧ (false = true → 1 ≤ d → d ≤ 5 → 0 ≤ a → 0 ≤ c3 → c3 ≤ c2 → 0 ≤ t3 ∧ t3 ≤ c2 ∧ t3 ≤ a ∧ (t3 ≤ c3 ∨ c4 = d) ∧ (t4 = c4 ∨ t4 = d ∨ (t4 = 0 ∧ c4 = d))) ∧ (false = true → 1 ≤ d → d ≤ 5 → 0 ≤ a → t3 = AI c2 c3 c4 d a ∧ t4 = AJ c2 c3 c4 d a) :=
     fun t3 t4 e1 e2 => ⟨fun _ => ⟨e1, e2⟩, (fun h => by cases h), (fun h => by cases h)⟩
   cases (decide (1 ≤ d) && decide (d ≤ 5))
   · exact ⟨_, _, rfl, rfl, this _ _ rfl rfl⟩
   cases decide (a < 0)
   · exact ⟨_, _, rfl, rfl, this _ _ rfl rfl⟩
   · exact ⟨_, _, rfl, rfl, this _ _ rfl rfl⟩
 by_cases hd : 1 ≤ d ∧ d ≤ 5
 · rw [af hd.1, af hd.2]
   by_cases ha : a < 0
   · rw [af ha]; exact ⟨_, _, rfl, rfl, (fun _ => ⟨rfl, rfl⟩), (fun _ _ _ h => by omega), (fun _ _ _ h => by omega)⟩
   rw [aj ha]; have no : ∀ {A : Prop}, (true = false ∨ d < 1 ∨ 5 < d ∨ a < 0) → A := by
     rintro A (h | h | h | h)
     · cases h
     · omega
     · omega
     · omega
   by_cases h5 : a < c3
   · rw [af h5]; exact ⟨_, _, rfl, rfl, no, (fun _ _ _ _ _ _ => ⟨by omega, by omega, by omega, .inl (by omega), .inr (.inl rfl)⟩), fun _ _ _ _ => by unfold AI AJ; rw [if_pos h5, if_pos h5]; exact ⟨rfl, rfl⟩⟩
   rw [aj h5]
   by_cases h6 : c4 = d
   · rw [af h6]
     by_cases h7 : c2 < a
     · rw [af h7, if_pos h7, af (show c2 = c2 from rfl)]; exact ⟨_, _, rfl, rfl, no, (fun _ _ _ _ _ _ => ⟨by omega, by omega, by omega, .inr h6, .inr (.inr ⟨rfl, h6⟩)⟩), fun _ _ _ _ => by unfold AI AJ; rw [if_neg h5, if_neg h5, if_pos h6, if_pos h6, if_pos h7, if_pos (by omega)]; exact ⟨rfl, rfl⟩⟩
     · rw [aj h7, if_neg h7]
       by_cases h8 : a = c2
       · rw [af h8]; exact ⟨_, _, rfl, rfl, no, (fun _ _ _ _ _ _ => ⟨by omega, by omega, by omega, .inr h6, .inr (.inr ⟨rfl, h6⟩)⟩), fun _ _ _ _ => by unfold AI AJ; rw [if_neg h5, if_neg h5, if_pos h6, if_pos h6, if_neg h7, if_pos (by omega)]; exact ⟨rfl, rfl⟩⟩
       · rw [aj h8]; exact ⟨_, _, rfl, rfl, no, (fun _ _ _ _ _ _ => ⟨by omega, by omega, by omega, .inr h6, .inl rfl⟩), fun _ _ _ _ => by unfold AI AJ; rw [if_neg h5, if_neg h5, if_pos h6, if_pos h6, if_neg h7, if_neg (by omega)]; exact ⟨rfl, rfl⟩⟩
   · rw [aj h6]; exact ⟨_, _, rfl, rfl, no, (fun _ _ _ _ _ _ => ⟨by omega, by omega, by omega, .inl (by omega), .inl rfl⟩), fun _ _ _ _ => by unfold AI AJ; rw [if_neg h5, if_neg h5, if_neg h6, if_neg h6]; exact ⟨rfl, rfl⟩⟩
 · have e : (decide (1 ≤ d) && decide (d ≤ 5)) = false := by
     cases hq : (decide (1 ≤ d) && decide (d ≤ 5))
     · rfl
     · rw [Bool.and_eq_true, decide_eq_true_eq, decide_eq_true_eq] at hq; exact absurd hq hd
   rw [e]; exact ⟨_, _, rfl, rfl, (fun _ => ⟨rfl, rfl⟩), (fun _ h1 h2 => absurd ⟨h1, h2⟩ hd), (fun _ h1 h2 => absurd ⟨h1, h2⟩ hd)⟩
end Go.TM
set_option linter.unusedSimpArgs false
set_option linter.unusedVariables false
namespace Go.TM
open Go
theorem FJ (d : Int) (xs : List (Int × Unit)) (h : xs.length ≤ 1048576) : dN xs d = some (decide (d ∈ aY xs), ()) := by
 obtain ⟨e, he, hq⟩ := ev (round := cD) (x := (xs, d, ((0 : Nat) : Int), ())) xs.length (fun k x => x = (xs, d, ((k : Nat) : Int), ()) ∧ d ∉ aY (xs.take k)) (fun e => (e = .inl () ∧ d ∉ aY xs) ∨ (e = .inr (true, ()) ∧ d ∈ aY xs)) (by
     rintro x ⟨rfl, g⟩
     rw [List.take_length] at g; exact ⟨.inl (), by simp only [cD, ie, aD, cond_false], .inl ⟨rfl, g⟩⟩) (by
     rintro k x hk ⟨rfl, g⟩
     simp only [cD, ie, ax hk, ak, cond_true, au, List.getElem?_eq_getElem hk, Option.bind_some, aG (show k < 4611686018427387904 by omega)]
     by_cases e : xs[k].1 = d
     · rw [af e]; exact .inl ⟨_, rfl, .inr ⟨rfl, by rw [← e]; exact List.mem_map_of_mem (List.getElem_mem hk)⟩⟩
     · rw [aj e]; refine .inr ⟨_, rfl, rfl, ?_⟩; rw [List.take_succ_eq_append_getElem hk]; unfold aY at g ⊢; rw [List.map_append, List.mem_append]
       rintro (h1 | h1)
       · exact g h1
       · simp only [List.map_cons, List.map_nil, List.mem_singleton] at h1; exact e h1.symm) ⟨rfl, by simp [aY]⟩
 have he : aE cD (xs, d, (0 : Int), ()) = some e := he; unfold dN; rw [he]; rcases hq with ⟨rfl, g⟩ | ⟨rfl, g⟩
 · rw [aj g]; rfl
 · rw [af g]; rfl
theorem FK (d : Int) (xs : List (Int × Unit)) (h : xs.length ≤ 1048576) : ch xs d = some (decide (d ∈ aY xs), ()) := by
 obtain ⟨b, h1, h2⟩ := rC d xs h; rw [FJ d xs h] at h1; injection h1 with h1; injection h1 with h1 _; rw [h2, h1]
def hasB (list : aK) (s : Int) : Bool := (dF list s).isSome
theorem vJ (o : Option cH) : (np o).2.2.2.2.1 = o.isSome := by cases o <;> rfl
def FL {B C : Type} (list : aK) (u : Int) : Sum ((List (Int × Unit)) × Unit) B → Sum ((List (Int × Unit)) × Unit) C → Prop
 | .inl a, .inl b => a = b ∧ ∃ ms : List Int, a.1 = aO ms ∧ ms.length ≤ 20 ∧ ∀ s ∈ ms, 1 ≤ s ∧ s ≤ u ∧ hasB list s = false
 | _, _ => False
theorem zb (list : aK) (upto u : Int) (n : Nat) (h : list.length ≤ 1048576) (hn : n ≤ 1048576) (hu : (if (60 : Int) < upto then (60 : Int) else upto) = u) (aiZ : u ≤ 60) :
   ∃ e f, aE fy (list, u, [], ((n + 1 : Nat) : Int), ()) = some e ∧ aE gJ (list, upto, [], ((n + 1 : Nat) : Int), ()) = some f ∧ FL list u e f := by
 refine mb 61 (fun k x y => ∃ ms : List Int, x = (list, u, aO ms, ((n + 1 + k : Nat) : Int), ()) ∧ y = (list, upto, aO ms, ((n + 1 + k : Nat) : Int), ()) ∧ ms.length ≤ 20 ∧ ∀ s ∈ ms, 1 ≤ s ∧ s ≤ u ∧ hasB list s = false) (FL list u) ?_ ⟨[], rfl, rfl, by simp, fun s hs => by cases hs⟩
 rintro k x y hk ⟨ms, rfl, rfl, q1, q2⟩
 have stop : FL (B := Unit) (C := Unit) list u (.inl (aO ms, ())) (.inl (aO ms, ())) := ⟨rfl, ms, rfl, q1, q2⟩
 by_cases bX : ((n + 1 + k : Nat) : Int) ≤ u
 case neg =>
   refine .inl ⟨.inl (aO ms, ()), .inl (aO ms, ()), ?_, ?_, ⟨rfl, ms, rfl, q1, q2⟩⟩
   · simp only [fy, kZ, aj bX, cond_false]
   · simp only [gJ, k9, hu, aj bX, cond_false]
 by_cases RJ : ((List.length (aO ms) : Nat) : Int) < 20
 case neg =>
   refine .inl ⟨.inl (aO ms, ()), .inl (aO ms, ()), ?_, ?_, ⟨rfl, ms, rfl, q1, q2⟩⟩
   · simp only [fy, kZ, af bX, aj RJ, cond_true, cond_false]
   · simp only [gJ, k9, hu, af bX, aj RJ, cond_true, cond_false]
 have hl : (aO ms).length = ms.length := bY ms; simp only [fy, kZ, gJ, k9, hu, af bX, af RJ, cond_true, q8 list _ h, q9 list _ h, Option.bind_some, vJ, aF (show ((aO ms).length + 1) * 8 ≤ lim by unfold lim; omega), aG (show n + 1 + k < 4611686018427387904 by omega)]
 cases hh : (dF list ((n + 1 + k : Nat) : Int)).isSome
 · refine .inr ⟨by omega, _, _, rfl, rfl, ms ++ [((n + 1 + k : Nat) : Int)], by simp [aO]; omega, by simp [aO]; omega, by simp; omega, fun s hs => ?_⟩; rcases List.mem_append.1 hs with hs | hs
   · exact q2 s hs
   · rw [List.mem_singleton] at hs; subst hs; exact ⟨by omega, by omega, hh⟩
 · exact .inr ⟨by omega, _, _, rfl, rfl, ms, by rw [show n + 1 + k + 1 = n + 1 + (k + 1) by omega], by rw [show n + 1 + k + 1 = n + 1 + (k + 1) by omega], q1, q2⟩
theorem HE (list : aK) (upto : Int) (h : list.length ≤ 1048576) : ∃ ms : List Int, ml list upto = some (aO ms, ()) ∧ mq list upto = some (aO ms, ()) ∧ ms.length ≤ 20 ∧ ∀ s ∈ ms, 1 ≤ s ∧ (s ≤ 60 ∧ s ≤ upto) ∧ hasB list s = false := by
 obtain ⟨n, a1, a2, a3, _⟩ := CR list h; have hw : IntKind.i64.wrap (((n : Nat) : Int) + (1 : Int)) = ((n + 1 : Nat) : Int) := aG (by omega); unfold ml mq; simp only [a1, a2, Option.bind_some, hw]
 by_cases hu : (60 : Int) < upto
 · obtain ⟨e, f, g1, g2, g3⟩ := zb list upto 60 n h (by omega) (if_pos hu) (by omega); rw [af hu]; simp only [cond_true, g1, g2]
   cases e with
   | inr e => exact g3.elim
   | inl e => cases f with
     | inr f => exact g3.elim
     | inl f =>
       obtain ⟨rfl, ms, k1, k2, k3⟩ := g3; simp only [jd]; exact ⟨ms, by rw [k1], by rw [k1], k2, fun s hs => ⟨(k3 s hs).1, ⟨(k3 s hs).2.1, by have := (k3 s hs).2.1; omega⟩, (k3 s hs).2.2⟩⟩
 · obtain ⟨e, f, g1, g2, g3⟩ := zb list upto upto n h (by omega) (if_neg hu) (by omega); rw [aj hu]; simp only [cond_false, g1, g2]
   cases e with
   | inr e => exact g3.elim
   | inl e => cases f with
     | inr f => exact g3.elim
     | inl f =>
       obtain ⟨rfl, ms, k1, k2, k3⟩ := g3; simp only [jd]; exact ⟨ms, by rw [k1], by rw [k1], k2, fun s hs => ⟨(k3 s hs).1, ⟨by have := (k3 s hs).2.1; omega, (k3 s hs).2.1⟩, (k3 s hs).2.2⟩⟩
theorem CY : ∀ (a b : List Int), a.Pairwise (· < ·) → b.Pairwise (· < ·) → (∀ x, x ∈ a ↔ x ∈ b) → a = b
 | [], [], _, _, _ => rfl
 | [], y :: b, _, _, h => absurd ((h y).2 List.mem_cons_self) (by simp)
 | x :: a, [], _, _, h => absurd ((h x).1 List.mem_cons_self) (by simp)
 | x :: a, y :: b, ha, hb, h => by
   rw [List.pairwise_cons] at ha hb; have hxy : x = y := by
     rcases List.mem_cons.1 ((h x).1 List.mem_cons_self) with e | e
     · exact e
     · have h1 := hb.1 x e; rcases List.mem_cons.1 ((h y).2 List.mem_cons_self) with e2 | e2
       · exact e2.symm
       · have h2 := ha.1 y e2; omega
   subst hxy
   congr 1
   refine CY a b ha.2 hb.2 fun z => ⟨fun hz => ?_, fun hz => ?_⟩
   · rcases List.mem_cons.1 ((h z).1 (List.mem_cons_of_mem _ hz)) with e | e
     · have := ha.1 z hz; omega
     · exact e
   · rcases List.mem_cons.1 ((h z).2 (List.mem_cons_of_mem _ hz)) with e | e
     · have := hb.1 z hz; omega
     · exact e
theorem QE (l : List Int) : (l.mergeSort fun x y => decide (x ≤ y)).Pairwise (· ≤ ·) := by
 have := List.pairwise_mergeSort (le := fun x y : Int => decide (x ≤ y)) (fun a b c h1 h2 => by simp only [decide_eq_true_eq] at *; omega) (fun a b => by simp only [Bool.or_eq_true, decide_eq_true_eq]; omega) l; exact this.imp fun h => by simpa using h
theorem O0 (l : List Int) (x : Int) : x ∈ (l.mergeSort fun x y => decide (x ≤ y)) ↔ x ∈ l := (List.mergeSort_perm l _).mem_iff
theorem sj (l : List Int) (j : Nat) (h : j < l.length) : l.toArray[j]! = l[j] := by
 rw [getElem!_pos l.toArray j (by simpa using h)]; simp
theorem CZ (l : List Int) (h : l.Pairwise (· ≤ ·)) : (Lib.compact l).Pairwise (· < ·) := by
 unfold Lib.compact Lib.compactUpTo; rw [List.pairwise_map]; have hr : ((List.range l.length).filter (Lib.keeps l.toArray)).Pairwise (· < ·) := List.Pairwise.filter _ List.pairwise_lt_range; refine hr.imp_of_mem fun {i j} hi hj Pp => ?_
 obtain ⟨Z0, _⟩ := List.mem_filter.1 hi; obtain ⟨Pt, Ha⟩ := List.mem_filter.1 hj; have Z0 := List.mem_range.1 Z0; have Pt := List.mem_range.1 Pt; have hk : l.toArray[j]! ≠ l.toArray[j - 1]! := by
   unfold Lib.keeps at Ha; rw [decide_eq_true_eq] at Ha; exact Ha.resolve_left (by omega)
 have hp := List.pairwise_iff_getElem.1 h; have h1 := hp (j - 1) j (by omega) Pt (by omega); rw [sj l j Pt, sj l (j - 1) (by omega)] at hk; rw [sj l i Z0, sj l j Pt]
 by_cases e : i = j - 1
 · subst e; omega
 · have h2 := hp i (j - 1) Z0 (by omega) (by omega); omega
theorem HF (l : List Int) (x : Int) : x ∈ Lib.compact l ↔ x ∈ l := by
 unfold Lib.compact Lib.compactUpTo; rw [List.mem_map]
 constructor
 · rintro ⟨j, hj, rfl⟩
   have Pt := List.mem_range.1 (List.mem_filter.1 hj).1; rw [sj l j Pt]; exact List.getElem_mem Pt
 · intro hx; have key : ∀ j, j < l.length → ∃ i, i ∈ (List.range l.length).filter (Lib.keeps l.toArray) ∧ l.toArray[i]! = l.toArray[j]! := by
     intro j
     induction j with
     | zero => intro h0; exact ⟨0, List.mem_filter.2 ⟨List.mem_range.2 h0, by simp [Lib.keeps]⟩, rfl⟩
     | succ j ih =>
       intro hj
       by_cases e : l.toArray[j + 1]! = l.toArray[j]!
       · obtain ⟨i, h1, h2⟩ := ih (by omega); exact ⟨i, h1, by rw [h2, e]⟩
       · exact ⟨j + 1, List.mem_filter.2 ⟨List.mem_range.2 hj, by unfold Lib.keeps; rw [decide_eq_true_eq, Nat.add_sub_cancel]; exact .inr e⟩, rfl⟩
   obtain ⟨j, hj, rfl⟩ := List.mem_iff_getElem.1 hx; obtain ⟨i, h1, h2⟩ := key j hj; exact ⟨i, h1, by rw [h2, sj l j hj]⟩
def ints (n : Nat) : List Int := (List.range n).map fun i => ((i + 1 : Nat) : Int)
theorem Ey (n : Nat) : ints (n + 1) = ints n ++ [((n + 1 : Nat) : Int)] := by
 unfold ints; rw [List.range_succ, List.map_append]; rfl
theorem O1 (n : Nat) (x : Int) : x ∈ ints n ↔ 1 ≤ x ∧ x ≤ ((n : Nat) : Int) := by
 unfold ints; rw [List.mem_map]
 constructor
 · rintro ⟨i, hi, rfl⟩
   have := List.mem_range.1 hi; omega
 · rintro ⟨h1, h2⟩
   exact ⟨(x - 1).toNat, List.mem_range.2 (by omega), by omega⟩
theorem AK (n : Nat) : (ints n).Pairwise (· < ·) := by
 unfold ints; rw [List.pairwise_map]; exact List.pairwise_lt_range.imp fun h => by omega
theorem C0 : ∀ (k d : Nat), ∃ r, ints (k + d) = ints k ++ r
 | k, 0 => ⟨[], by simp⟩
 | k, d + 1 => by
   obtain ⟨r, h⟩ := C0 k d; exact ⟨r ++ [((k + d + 1 : Nat) : Int)], by rw [show k + (d + 1) = (k + d) + 1 by omega, Ey, h, List.append_assoc]⟩
theorem JH (a b : List Int) : aO (a ++ b) = aO a ++ aO b := by simp [aO]
theorem HG (a : List Int) (n : Nat) : aO (a.take n) = (aO a).take n := by simp [aO, List.map_take]
theorem nr (a : List Int) : aY (aO a) = a := by simp [aY, aO, Function.comp_def]
def fZ (list : aK) (xs : List (Int × Unit)) (ms : List Int) (s : Int) : Bool := (!hasB list s && decide (s ∈ aY xs)) || decide (s ∈ ms)
def jt (list : aK) (xs : List (Int × Unit)) (ms : List Int) : List Int := ((ints 60).filter (fZ list xs ms)).take 20
abbrev RK : Type := aK × Int × Int × Int × Int × Int × (List (Int × Unit)) × Int × Int × Int × Int × Int × (List (Int × Unit)) × Int × Int × Int × Int × Int × (List (Int × Unit)) × (List (Int × Unit)) × Int × Unit
theorem JI (t0 t1 t2 t3 t4 : Int) (xs : List (Int × Unit)) (list : aK) (ms : List Int) (h : list.length ≤ 1048576) (hx : xs.length ≤ 1048576) (hm : ml list t2 = some (aO ms, ())) (Z1 : ms.length ≤ 20) :
   cu t0 t1 t2 t3 t4 xs list = some (t0, t1, t2, t3, t4, aO (jt list xs ms), ()) := by
 have PG : (aO ms).length ≤ 1048576 := by rw [bY]; omega
 obtain ⟨e, he, rfl⟩ := ev (round := jy) (x := (list, t0, t1, t2, t3, t4, xs, (0 : Int), (0 : Int), (0 : Int), (0 : Int), (0 : Int), [], t0, t1, t2, t3, t4, [], aO ms, ((0 + 1 : Nat) : Int), ())) 60
   (fun k x => x = (list, t0, t1, t2, t3, t4, xs, (0 : Int), (0 : Int), (0 : Int), (0 : Int), (0 : Int), [], t0, t1, t2, t3, t4, aO ((ints k).filter (fZ list xs ms)), aO ms, ((k + 1 : Nat) : Int), ()) ∧ ((ints k).filter (fZ list xs ms)).length ≤ 20)
   (fun e => e = .inl ((0 : Int), (0 : Int), (0 : Int), (0 : Int), (0 : Int), [], t0, t1, t2, t3, t4, aO (jt list xs ms), ())) (by
     rintro x ⟨rfl, g⟩
     refine ⟨_, ?_, rfl⟩; simp only [jy, ni, aj (show ¬ ((60 + 1 : Nat) : Int) ≤ (60 : Int) by omega), cond_false]; unfold jt; rw [List.take_of_length_le g]) (by
     rintro k x hk ⟨rfl, g⟩
     have hle : ((k + 1 : Nat) : Int) ≤ (60 : Int) := by omega
     have hl := bY ((ints k).filter (fZ list xs ms))
     by_cases RJ : ((List.length (aO ((ints k).filter (fZ list xs ms))) : Nat) : Int) < 20
     case neg =>
       refine .inl ⟨_, ?_, rfl⟩; simp only [jy, ni, af hle, aj RJ, cond_true, cond_false]; have : jt list xs ms = (ints k).filter (fZ list xs ms) := by
         unfold jt; obtain ⟨r, hr⟩ := C0 k (60 - k); rw [show k + (60 - k) = 60 by omega] at hr; rw [hr, List.filter_append]; exact List.take_left' (by omega)
       rw [this]
     have Ez : (ints (k + 1)).filter (fZ list xs ms) = (ints k).filter (fZ list xs ms) ++ (if fZ list xs ms ((k + 1 : Nat) : Int) then [((k + 1 : Nat) : Int)] else []) := by
       rw [Ey, List.filter_append]; rw [List.filter_cons, List.filter_nil]
     have afc := FJ ((k + 1 : Nat) : Int) xs hx; have Zh := FJ ((k + 1 : Nat) : Int) (aO ms) PG; rw [nr] at Zh; have hb : Nat.ble (((aO ((ints k).filter (fZ list xs ms))).length + 1) * 8) lim = true := aF (by unfold lim; omega); have hsw := aG (show k + 1 < 4611686018427387904 by omega); simp only [jy, ni, af hle, af RJ, cond_true, q8 list _ h, Option.bind_some, vJ, afc, Zh, hb, hsw]; have yes : fZ list xs ms ((k + 1 : Nat) : Int) = true → ∃ x' : RK, x' = (list, t0, t1, t2, t3, t4, xs, (0 : Int), (0 : Int), (0 : Int), (0 : Int), (0 : Int), [], t0, t1, t2, t3, t4, aO ((ints k).filter (fZ list xs ms)) ++ [(((k + 1 : Nat) : Int), ())], aO ms, ((k + 1 + 1 : Nat) : Int), ()) ∧
         (x' = (list, t0, t1, t2, t3, t4, xs, (0 : Int), (0 : Int), (0 : Int), (0 : Int), (0 : Int), [], t0, t1, t2, t3, t4, aO ((ints (k + 1)).filter (fZ list xs ms)), aO ms, ((k + 1 + 1 : Nat) : Int), ()) ∧ ((ints (k + 1)).filter (fZ list xs ms)).length ≤ 20) := by
       intro hp; refine ⟨_, rfl, ?_, ?_⟩
       · rw [Ez, hp, if_pos rfl, JH]; rfl
       · rw [Ez, hp, if_pos rfl, List.length_append]; simp; omega
     have no : fZ list xs ms ((k + 1 : Nat) : Int) = false → ∃ x' : RK, x' = (list, t0, t1, t2, t3, t4, xs, (0 : Int), (0 : Int), (0 : Int), (0 : Int), (0 : Int), [], t0, t1, t2, t3, t4, aO ((ints k).filter (fZ list xs ms)), aO ms, ((k + 1 + 1 : Nat) : Int), ()) ∧
         (x' = (list, t0, t1, t2, t3, t4, xs, (0 : Int), (0 : Int), (0 : Int), (0 : Int), (0 : Int), [], t0, t1, t2, t3, t4, aO ((ints (k + 1)).filter (fZ list xs ms)), aO ms, ((k + 1 + 1 : Nat) : Int), ()) ∧ ((ints (k + 1)).filter (fZ list xs ms)).length ≤ 20) := by
       intro hp; refine ⟨_, rfl, ?_, ?_⟩
       · rw [Ez, hp]; simp
       · rw [Ez, hp]; simp; omega
     have FM : fZ list xs ms ((k + 1 : Nat) : Int) = ((!(dF list ((k + 1 : Nat) : Int)).isSome && decide (((k + 1 : Nat) : Int) ∈ aY xs)) || decide (((k + 1 : Nat) : Int) ∈ ms)) := rfl
     cases c1 : (dF list ((k + 1 : Nat) : Int)).isSome
     · cases c2 : decide (((k + 1 : Nat) : Int) ∈ aY xs)
       · cases c3 : decide (((k + 1 : Nat) : Int) ∈ ms)
         · obtain ⟨x', g1, g2⟩ := no (by rw [FM, c1, c2, c3]; rfl); exact .inr ⟨x', by rw [g1]; rfl, g2⟩
         · obtain ⟨x', g1, g2⟩ := yes (by rw [FM, c1, c2, c3]; rfl); exact .inr ⟨x', by rw [g1]; rfl, g2⟩
       · obtain ⟨x', g1, g2⟩ := yes (by rw [FM, c1, c2]; rfl); exact .inr ⟨x', by rw [g1]; rfl, g2⟩
     · cases c3 : decide (((k + 1 : Nat) : Int) ∈ ms)
       · obtain ⟨x', g1, g2⟩ := no (by rw [FM, c1, c3]; rfl); exact .inr ⟨x', by rw [g1]; rfl, g2⟩
       · obtain ⟨x', g1, g2⟩ := yes (by rw [FM, c1, c3]; rfl); exact .inr ⟨x', by rw [g1]; rfl, g2⟩) ⟨rfl, by simp [ints]⟩
 unfold cu; rw [hm]; simp only [Option.bind_some]; rw [show (1 : Int) = ((0 + 1 : Nat) : Int) from rfl, he]; rfl
def oN (list : aK) (s : Int) : Bool := !hasB list s && (decide (1 ≤ s) && decide (s ≤ 60))
theorem JJ (t0 t1 t2 t3 t4 : Int) (xs : List (Int × Unit)) (list : aK) (ms : List Int) (h : list.length ≤ 1048576) (hx : xs.length ≤ 1048576) (hm : mq list t2 = some (aO ms, ())) (Z1 : ms.length ≤ 20) (hmp : ∀ s ∈ ms, 1 ≤ s ∧ s ≤ 60 ∧ hasB list s = false) :
   qf t0 t1 t2 t3 t4 xs list = some (t0, t1, t2, t3, t4, aO (jt list xs ms), ()) := by
 have KA := cX (round := jA) (e := .inl ((0 : Int), (0 : Int), (0 : Int), (0 : Int), (0 : Int), [], t0, t1, t2, t3, t4, xs, aO (ms ++ (aY xs).filter (oN list)), ())) xs.length
   (fun k => (list, (0 : Int), (0 : Int), (0 : Int), (0 : Int), (0 : Int), [], t0, t1, t2, t3, t4, xs, aO (ms ++ (aY (xs.take k)).filter (oN list)), xs, ((List.length xs : Nat) : Int), ((k : Nat) : Int), ())) (by
     simp only [jA, rz, aD, cond_false, List.take_length]) (fun k hk => by
     have hfl : ((aY (xs.take k)).filter (oN list)).length ≤ 1048576 := by
       have h1 := List.length_filter_le (oN list) (aY (xs.take k)); have h2 := ia (xs.take k); rw [List.length_take] at h2; omega
     have hl := bY (ms ++ (aY (xs.take k)).filter (oN list)); rw [List.length_append] at hl; have Ez : (aY (xs.take (k + 1))).filter (oN list) = (aY (xs.take k)).filter (oN list) ++ (if oN list xs[k].1 then [xs[k].1] else []) := by
       rw [List.take_succ_eq_append_getElem hk]; unfold aY; rw [List.map_append, List.filter_append, List.map_cons, List.map_nil, List.filter_cons, List.filter_nil]
     have FM : oN list xs[k].1 = (!(dF list xs[k].1).isSome && (decide (1 ≤ xs[k].1) && decide (xs[k].1 ≤ 60))) := rfl; simp only [jA, rz, ax hk, ak, cond_true, au, List.getElem?_eq_getElem hk, Option.bind_some, q9 list _ h, vJ, rB, aF (show ((aO (ms ++ (aY (xs.take k)).filter (oN list))).length + 1) * 8 ≤ lim by unfold lim; omega), aG (show k < 4611686018427387904 by omega), Ez]
     cases c1 : (dF list xs[k].1).isSome
     · cases c2 : (decide (1 ≤ xs[k].1) && decide (xs[k].1 ≤ 60))
       · rw [FM, c1, c2]; simp
       · rw [FM, c1, c2]; simp [aO]
     · rw [FM, c1]; simp)
 have KA : aE jA (list, (0 : Int), (0 : Int), (0 : Int), (0 : Int), (0 : Int), [], t0, t1, t2, t3, t4, xs, aO (ms ++ (aY (xs.take 0)).filter (oN list)), xs, ((List.length xs : Nat) : Int), (0 : Int), ()) = _ := KA; rw [show ms ++ (aY (xs.take 0)).filter (oN list) = ms by simp [aY]] at KA; have c2 : cm t0 t1 t2 t3 t4 xs = some (t0, t1, t2, t3, t4, xs, ()) := by
   unfold cm; rw [mZ xs hx]; rfl
 have hwl : (ms ++ (aY xs).filter (oN list)).length ≤ 1048576 + 20 := by
   rw [List.length_append]; have h1 := List.length_filter_le (oN list) (aY xs); have h2 := ia xs; omega
 generalize hW : ms ++ (aY xs).filter (oN list) = W at *; have Zi : Cr (aO W) = some (aO (W.mergeSort fun x y => decide (x ≤ y)), ()) := by
   unfold Cr; rw [aF (show (aO W).length ≤ lim by rw [bY]; unfold lim; omega), nr]; rfl
 have RL : mc (aO (W.mergeSort fun x y => decide (x ≤ y))) = some (aO (Lib.compact (W.mergeSort fun x y => decide (x ≤ y))), ()) := by
   unfold mc; rw [aF (show (aO (W.mergeSort fun x y => decide (x ≤ y))).length ≤ lim by rw [bY, List.length_mergeSort]; unfold lim; omega), nr]; rfl
 have hC : Lib.compact (W.mergeSort fun x y => decide (x ≤ y)) = (ints 60).filter (fZ list xs ms) := by
   refine CY _ _ (CZ _ (QE W)) ((AK 60).filter _) fun z => ?_
   rw [HF, O0, ← hW, List.mem_append, List.mem_filter, List.mem_filter, O1]; unfold oN fZ; simp only [Bool.and_eq_true, Bool.or_eq_true, decide_eq_true_eq, Bool.not_eq_true']
   constructor
   · rintro (h1 | ⟨h1, h2, h3, h4⟩)
     · exact ⟨⟨(hmp z h1).1, (hmp z h1).2.1⟩, .inr h1⟩
     · exact ⟨⟨h3, h4⟩, .inl ⟨h2, h1⟩⟩
   · rintro ⟨⟨h3, h4⟩, ⟨h2, h1⟩ | h1⟩
     · exact .inr ⟨h1, h2, h3, h4⟩
     · exact .inl h1
 rw [hC] at RL; have hCl : ((ints 60).filter (fZ list xs ms)).length ≤ 60 := Nat.le_trans (List.length_filter_le _ _) (by simp [ints]); have afd : (if (20 : Int) < ((List.length (aO ((ints 60).filter (fZ list xs ms))) : Nat) : Int) then (20 : Int) else ((List.length (aO ((ints 60).filter (fZ list xs ms))) : Nat) : Int)) = ((min 20 ((ints 60).filter (fZ list xs ms)).length : Nat) : Int) := by
   rw [bY]
   split <;> omega
 have Zj : List.take (min 20 ((ints 60).filter (fZ list xs ms)).length) (aO ((ints 60).filter (fZ list xs ms))) = aO (jt list xs ms) := by
   unfold jt; rw [HG]
   by_cases RJ : 20 ≤ ((ints 60).filter (fZ list xs ms)).length
   · rw [Nat.min_eq_left RJ]
   · rw [Nat.min_eq_right (by omega), List.take_of_length_le (by rw [bY]; omega), List.take_of_length_le (by rw [bY]; omega)]
 have oJ := mZ (aO (jt list xs ms)) (by rw [bY]; unfold jt; rw [List.length_take]; omega); unfold qf; rw [c2, hm]; simp only [Option.bind_some]; rw [KA]; simp only [jd, Zi, RL, Option.bind_some, afd, ak, cond_true, au, List.drop_zero, Zj, oJ, af (show ((min 20 ((ints 60).filter (fZ list xs ms)).length : Nat) : Int) ≤ ((List.length (aO ((ints 60).filter (fZ list xs ms))) : Nat) : Int) by rw [bY]; omega)]
end Go.TM
set_option linter.unusedSimpArgs false
set_option linter.unusedVariables false
namespace Go.TM
open Go
theorem KB {xs : aK} {s : Int} : hasB xs s = true ↔ ∃ r ∈ xs, r.1 = s := by
 unfold hasB dF; rw [List.find?_isSome]; simp only [decide_eq_true_eq]
theorem zQ {r m : cH} : {xs : aK} → r ∈ xs → r ∈ lR xs m
 | [], h => by cases h
 | x :: xs, h => by
   unfold lR
   split
   · rcases List.mem_cons.1 h with rfl | h
     · exact List.mem_cons_self
     · exact List.mem_cons_of_mem _ (zQ h)
   · split
     · exact h
     · exact List.mem_cons_of_mem _ h
theorem HH {xs ys : aK} (hx : xs.length ≤ 1048576) (hy : ys.length ≤ 1048576) (h : ∀ r ∈ xs, ∃ q ∈ ys, q.1 = r.1) : dw xs ≤ dw ys := by
 obtain ⟨_, a1, _⟩ := (xH xs hx).2.2; obtain ⟨_, _, b2⟩ := (xH ys hy).2.2
 by_cases bX : dw ys < dw xs
 · have h1 := a1 _ bX; obtain ⟨r, hr, e⟩ := KB.1 h1; obtain ⟨q, hq, e2⟩ := h r hr; have : hasB ys ((dw ys + 1 : Nat) : Int) = true := KB.2 ⟨q, hq, e2.trans e⟩; unfold hasB at this; rw [b2] at this
   cases this
 · omega
def bq (xs : aK) (fs : aK) : aK := fs.foldl lR xs
theorem pj : (fs : aK) → {xs : aK} → im xs xs.length → (∀ f ∈ fs, kS f) → im (bq xs fs) (bq xs fs).length
 | [], _, h, _ => h
 | f :: fs, _, h, hf => pj fs (CW h (hf f List.mem_cons_self)) fun g hg => hf g (List.mem_cons_of_mem _ hg)
theorem AL {r : cH} : (fs : aK) → {xs : aK} → r ∈ xs → r ∈ bq xs fs
 | [], _, h => h
 | _ :: fs, _, h => AL fs (zQ h)
theorem C1 {r : cH} : (fs : aK) → {xs : aK} → r ∈ bq xs fs → r ∈ fs ∨ r ∈ xs
 | [], _, h => .inr h
 | f :: fs, xs, h => by
   rcases C1 fs h with h | h
   · exact .inl (List.mem_cons_of_mem _ h)
   · rcases vI h with rfl | h
     · exact .inl List.mem_cons_self
     · exact .inr h
theorem JK {c2 d : Int} {lv : cP} {tx : List (ByteArray × Unit)} {k j : Nat} (hc : 0 ≤ c2 ∧ c2 + ((k : Nat) : Int) ≤ 60) (hd : 1 ≤ d ∧ d ≤ 5) (hk : k ≤ tx.length) (hs : iA tx tx.length) (hj : j < k) : kS (ph c2 d lv tx j) := by
 have h1 : j < tx.length := by omega
 have hgt : (tx.getD j (ByteArray.empty, ())).1 = tx[j].1 := by rw [List.getD_eq_getElem?_getD, List.getElem?_eq_getElem h1, Option.getD_some]
 refine ⟨⟨?_, ?_⟩, hd, ?_, ?_⟩
 · show 1 ≤ c2 + ((j + 1 : Nat) : Int); omega
 · show c2 + ((j + 1 : Nat) : Int) ≤ 60; omega
 · show 1 ≤ (bif decide (j < lv.length) && decide ((lv.getD j ((0 : Int), ())).1 = 2) then (2 : Int) else 1) ∧ (bif decide (j < lv.length) && decide ((lv.getD j ((0 : Int), ())).1 = 2) then (2 : Int) else 1) ≤ 2
   cases decide (j < lv.length) && decide ((lv.getD j ((0 : Int), ())).1 = 2) <;> decide
 · show ByteArray.size (tx.getD j (ByteArray.empty, ())).1 ≤ 60; rw [hgt]; exact hs j h1 h1
theorem AM {c2 d : Int} {lv : cP} {tx : List (ByteArray × Unit)} {k : Nat} (hc : 0 ≤ c2 ∧ c2 + ((k : Nat) : Int) ≤ 60) (hd : 1 ≤ d ∧ d ≤ 5) (hk : k ≤ tx.length) (hs : iA tx tx.length) : ∀ f ∈ de c2 d lv tx k, kS f := by
 intro f hf; unfold de at hf; obtain ⟨j, hj, rfl⟩ := List.mem_map.1 hf; exact JK hc hd hk hs (List.mem_range.1 hj)
def rb (t : jG) (xs : aK) : aK := xs.filter fun r => decide (r.1 ∈ aY t.2.2.2.2.2.1)
theorem O2 (t : jG) (xs : aK) (h : xs.length ≤ 1048576) (hw : t.2.2.2.2.2.1.length ≤ 1048576) : sa t.1 t.2.1 t.2.2.1 t.2.2.2.1 t.2.2.2.2.1 t.2.2.2.2.2.1 xs = some (rb t xs, ()) ∧ sf t.1 t.2.1 t.2.2.1 t.2.2.2.1 t.2.2.2.2.1 t.2.2.2.2.2.1 xs = some (rb t xs, ()) := by
 have hlen : ∀ k, ((xs.take k).filter fun r => decide (r.1 ∈ aY t.2.2.2.2.2.1)).length ≤ k := fun k => Nat.le_trans (List.length_filter_le _ _) (List.length_take_le _ _)
 constructor
 · have hl := cX (round := kx) (e := .inl (rb t xs, ())) xs.length (fun k => (xs, t.1, t.2.1, t.2.2.1, t.2.2.2.1, t.2.2.2.2.1, t.2.2.2.2.2.1, (xs.take k).filter (fun r => decide (r.1 ∈ aY t.2.2.2.2.2.1)), ((k : Nat) : Int), ())) (by
     simp only [kx, sZ, aD, cond_false, List.take_length, rb]) (fun k hk => by
     have mL := hlen k; simp only [kx, sZ, ax hk, ak, cond_true, au, List.getElem?_eq_getElem hk, Option.bind_some, FJ _ _ hw, aF (show (((xs.take k).filter fun r => decide (r.1 ∈ aY t.2.2.2.2.2.1)).length + 1) * 40 ≤ lim by unfold lim; omega), aG (show k < 4611686018427387904 by omega)]; rw [List.take_succ_eq_append_getElem hk, List.filter_append]
     cases hp : decide (xs[k].1 ∈ aY t.2.2.2.2.2.1)
     · rw [List.filter_cons_of_neg (by rw [hp]; simp)]; simp
     · rw [List.filter_cons_of_pos (by rw [hp])]; rfl)
   have hl : aE kx (xs, t.1, t.2.1, t.2.2.1, t.2.2.2.1, t.2.2.2.2.1, t.2.2.2.2.2.1, [], (0 : Int), ()) = _ := hl; unfold sa; rw [hl]; rfl
 · have hl := cX (round := ky) (e := .inl (rb t xs, ())) xs.length (fun k => (t.1, t.2.1, t.2.2.1, t.2.2.2.1, t.2.2.2.2.1, t.2.2.2.2.2.1, (xs.take k).filter (fun r => decide (r.1 ∈ aY t.2.2.2.2.2.1)), xs, ((List.length xs : Nat) : Int), ((k : Nat) : Int), ())) (by
     simp only [ky, tw, aD, cond_false, List.take_length, rb]) (fun k hk => by
     have mL := hlen k; simp only [ky, tw, ax hk, ak, cond_true, au, List.getElem?_eq_getElem hk, Option.bind_some, FK _ _ hw, aF (show (((xs.take k).filter fun r => decide (r.1 ∈ aY t.2.2.2.2.2.1)).length + 1) * 40 ≤ lim by unfold lim; omega), aG (show k < 4611686018427387904 by omega)]; rw [List.take_succ_eq_append_getElem hk, List.filter_append]
     cases hp : decide (xs[k].1 ∈ aY t.2.2.2.2.2.1)
     · rw [List.filter_cons_of_neg (by rw [hp]; simp)]; simp
     · rw [List.filter_cons_of_pos (by rw [hp])]; rfl)
   have hl : aE ky (t.1, t.2.1, t.2.2.1, t.2.2.2.1, t.2.2.2.2.1, t.2.2.2.2.2.1, [], xs, ((List.length xs : Nat) : Int), (0 : Int), ()) = _ := hl; unfold sf; rw [hl]; rfl
theorem HI {t : jG} {xs : aK} {r : cH} (h : r ∈ rb t xs) : r ∈ xs := (List.mem_filter.1 h).1
theorem C2 (t : jG) (xs : aK) : (rb t xs).length ≤ xs.length := List.length_filter_le _ _
end Go.TM
