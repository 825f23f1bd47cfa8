/- Sizes, copies, sameness: what the laws' own helping functions answer. -/
import Derived.Test.YtiljcjnnhkidbaaGreatDF2
set_option linter.unusedSimpArgs false
set_option linter.unusedVariables false
namespace Go.TM
open Go
def zE (x : Int × Unit) : Prop := (-9223372036854775808 ≤ x.1 ∧ x.1 < 9223372036854775808) ∧ True
theorem Sq {x : Int × Unit} (h : xt im x) : zE x := ⟨ev (aa.1 h).1, trivial⟩
def cX (_ : Int × Unit) : Nat := 0
theorem zF (a0 : aG) {left : Int} (hz : List.length a0 ≤ 9223372036854775807 ∧ ∀ y ∈ a0, zE y) (h0 : 0 ≤ left) (h1 : left ≤ 1048576) : Left (kI a0 left) (List.length a0 + wl cX a0) left := by
 obtain ⟨hlen, Ia⟩ := hz; unfold kI; rw [ej (by omega) (by omega)]
 by_cases hd : left - ((List.length a0 : Nat) : Int) < 0
 · rw [ai hd]; exact ⟨-1, rfl, by omega, by omega⟩
 rw [aj hd]; simp only [cond_false]; have hw : wl cX a0 = 0 := qf _ (fun _ => rfl) _; exact ⟨_, rfl, by omega, by intro; omega⟩
def Q6 (x : Int × aG × Unit) : Prop := (-9223372036854775808 ≤ x.1 ∧ x.1 < 9223372036854775808) ∧ (List.length x.2.1 ≤ 9223372036854775807 ∧ ∀ y ∈ x.2.1, zE y) ∧ True
def Gh (x : Int × aG × Unit) : Nat := (List.length x.2.1 + wl cX x.2.1)
theorem Dg (aU : Int) (aM : aG) {left : Int} (hz : Q6 (aU, aM, ())) (h0 : 0 ≤ left) (h1 : left ≤ 1048576) : Left (mT aU aM left) (Gh (aU, aM, ())) left := by
 have hz : (-9223372036854775808 ≤ aU ∧ aU < 9223372036854775808) ∧ (List.length aM ≤ 9223372036854775807 ∧ ∀ y ∈ aM, zE y) ∧ True := hz; show Left _ ((List.length aM + wl cX aM)) left; obtain ⟨z0, z1, _⟩ := hz; unfold mT; obtain ⟨m1, e1, l1, w1⟩ := zF aM (left := left) z1 (by omega) (by omega); rw [e1]; simp only [Option.bind_some]
 by_cases LQ : m1 < 0
 · rw [ai LQ]; exact ⟨-1, rfl, by omega, by omega⟩
 rw [aj LQ]; simp only [cond_false]; have w1 := w1 (by omega); exact ⟨_, rfl, by omega, by intro; omega⟩
def tJ (x : mD) : Prop := (-9223372036854775808 ≤ x.1 ∧ x.1 < 9223372036854775808) ∧ (-9223372036854775808 ≤ x.2.1 ∧ x.2.1 < 9223372036854775808) ∧ (-9223372036854775808 ≤ x.2.2.1 ∧ x.2.2.1 < 9223372036854775808) ∧ (ByteArray.size x.2.2.2.1 ≤ 9223372036854775807) ∧ True
theorem Gi {x : mD} (h : xt aC x) : tJ x := ⟨ev (aa.1 h).1, ev (aa.1 (aa.1 h).2).1, ev (aa.1 (aa.1 (aa.1 h).2).2).1, FY (aa.1 (aa.1 (aa.1 (aa.1 h).2).2).2).1, trivial⟩
def bn (x : mD) : Nat := ByteArray.size x.2.2.2.1
theorem Hk (aU : Int) (aM : Int) (aN : Int) (aH : ByteArray) {left : Int} (hz : tJ (aU, aM, aN, aH, ())) (h0 : 0 ≤ left) (h1 : left ≤ 1048576) : Left (pH aU aM aN aH left) (bn (aU, aM, aN, aH, ())) left := by
 have hz : (-9223372036854775808 ≤ aU ∧ aU < 9223372036854775808) ∧ (-9223372036854775808 ≤ aM ∧ aM < 9223372036854775808) ∧ (-9223372036854775808 ≤ aN ∧ aN < 9223372036854775808) ∧ (ByteArray.size aH ≤ 9223372036854775807) ∧ True := hz; show Left _ (ByteArray.size aH) left; obtain ⟨z0, z1, z2, z3, _⟩ := hz; unfold pH; rw [ej (by omega) (by omega)]
 by_cases Lg : left - ((ByteArray.size aH : Nat) : Int) < 0
 · rw [ai Lg]; exact ⟨-1, rfl, by omega, by omega⟩
 rw [aj Lg]; simp only [cond_false]; exact ⟨_, rfl, by omega, by intro; omega⟩
theorem EU (a0 : ak) {left : Int} (hz : List.length a0 ≤ 9223372036854775807 ∧ ∀ y ∈ a0, tJ y) (h0 : 0 ≤ left) (h1 : left ≤ 1048576) : Left (ns a0 left) (List.length a0 + wl bn a0) left := by
 obtain ⟨hlen, Ia⟩ := hz; unfold ns; rw [ej (by omega) (by omega)]
 by_cases hd : left - ((List.length a0 : Nat) : Int) < 0
 · rw [ai hd]; exact ⟨-1, rfl, by omega, by omega⟩
 rw [aj hd]; simp only [cond_false]; obtain ⟨e, he, hq⟩ := eH (round := jP) (x := (a0, left - ((List.length a0 : Nat) : Int), ((0 : Nat) : Int), ())) a0.length (fun k x => ∃ m : Int, x = (a0, m, ((k : Nat) : Int), ()) ∧ 0 ≤ m ∧ ((a0.length + wl bn (a0.take k) : Nat) : Int) + m ≤ left)
   (fun e => match e with
     | .inl y => 0 ≤ y.1 ∧ ((a0.length + wl bn a0 : Nat) : Int) + y.1 ≤ left
     | .inr y => y.1 = -1) (by
     rintro x ⟨m, rfl, g1, g2⟩
     refine ⟨.inl (m, ()), ?_, g1, by rw [List.take_length] at g2; exact g2⟩; simp only [jP, pP, ax, cond_false]) (by
     rintro k x hk ⟨m, rfl, g1, g2⟩
     have hw := tv bn a0 hk; have hz := Ia _ (List.getElem_mem hk); obtain ⟨m', e', l', w'⟩ := Hk ((a0[k]).1) ((a0[k]).2.1) ((a0[k]).2.2.1) ((a0[k]).2.2.2.1) (left := m) hz g1 (by omega); have w' : 0 ≤ m' → ((bn a0[k] : Nat) : Int) + m' ≤ m := w'; simp only [jP, pP, aw hk, aq, cond_true, az, List.getElem?_eq_getElem hk, Option.bind_some, e', aA (show k < 4611686018427387904 by omega)]
     by_cases hm : m' < 0
     · rw [ai hm]; exact .inl ⟨.inr (-1, ()), rfl, rfl⟩
     · rw [aj hm]; have w' := w' (by omega); exact .inr ⟨_, rfl, _, rfl, by omega, by omega⟩)
     ⟨_, rfl, by omega, by rw [List.take_zero, u0]; omega⟩
 rw [show (0 : Int) = ((0 : Nat) : Int) from rfl, he]
 cases e with
 | inl y => exact ⟨y.1, rfl, by have := hq.1; omega, fun _ => hq.2⟩
 | inr y => exact ⟨y.1, rfl, by rw [show y.1 = -1 from hq]; omega, by rw [show y.1 = -1 from hq]; omega⟩
def Sr (x : ByteArray × Unit) : Prop := (ByteArray.size x.1 ≤ 9223372036854775807) ∧ True
theorem z_s {x : ByteArray × Unit} (h : xt uo x) : Sr x := ⟨FY (aa.1 h).1, trivial⟩
def sm (x : ByteArray × Unit) : Nat := ByteArray.size x.1
theorem Gj (a0 : hZ) {left : Int} (hz : List.length a0 ≤ 9223372036854775807 ∧ ∀ y ∈ a0, Sr y) (h0 : 0 ≤ left) (h1 : left ≤ 1048576) : Left (nu a0 left) (List.length a0 + wl sm a0) left := by
 obtain ⟨hlen, Ia⟩ := hz; unfold nu; rw [ej (by omega) (by omega)]
 by_cases hd : left - ((List.length a0 : Nat) : Int) < 0
 · rw [ai hd]; exact ⟨-1, rfl, by omega, by omega⟩
 rw [aj hd]; simp only [cond_false]; obtain ⟨e, he, hq⟩ := eH (round := iE) (x := (a0, left - ((List.length a0 : Nat) : Int), ((0 : Nat) : Int), ())) a0.length (fun k x => ∃ m : Int, x = (a0, m, ((k : Nat) : Int), ()) ∧ 0 ≤ m ∧ ((a0.length + wl sm (a0.take k) : Nat) : Int) + m ≤ left)
   (fun e => match e with
     | .inl y => 0 ≤ y.1 ∧ ((a0.length + wl sm a0 : Nat) : Int) + y.1 ≤ left
     | .inr y => y.1 = -1) (by
     rintro x ⟨m, rfl, g1, g2⟩
     refine ⟨.inl (m, ()), ?_, g1, by rw [List.take_length] at g2; exact g2⟩; simp only [iE, nt, ax, cond_false]) (by
     rintro k x hk ⟨m, rfl, g1, g2⟩
     have hw := tv sm a0 hk; have hz := Ia _ (List.getElem_mem hk); have hs : ByteArray.size a0[k].1 ≤ 9223372036854775807 := hz.1; have hw : wl sm (a0.take (k + 1)) = wl sm (a0.take k) + ByteArray.size a0[k].1 := hw; simp only [iE, nt, aw hk, aq, cond_true, az, List.getElem?_eq_getElem hk, Option.bind_some, aA (show k < 4611686018427387904 by omega)]; rw [ej (by omega) (by omega)]
     by_cases hm : m - ((ByteArray.size a0[k].1 : Nat) : Int) < 0
     · rw [ai hm]; exact .inl ⟨.inr (-1, ()), rfl, rfl⟩
     · rw [aj hm]; exact .inr ⟨_, rfl, _, rfl, by omega, by omega⟩)
     ⟨_, rfl, by omega, by rw [List.take_zero, u0]; omega⟩
 rw [show (0 : Int) = ((0 : Nat) : Int) from rfl, he]
 cases e with
 | inl y => exact ⟨y.1, rfl, by have := hq.1; omega, fun _ => hq.2⟩
 | inr y => exact ⟨y.1, rfl, by rw [show y.1 = -1 from hq]; omega, by rw [show y.1 = -1 from hq]; omega⟩
def Gk (x : mE) : Prop := (-9223372036854775808 ≤ x.1 ∧ x.1 < 9223372036854775808) ∧ (-9223372036854775808 ≤ x.2.1 ∧ x.2.1 < 9223372036854775808) ∧ (-9223372036854775808 ≤ x.2.2.1 ∧ x.2.2.1 < 9223372036854775808) ∧ (-9223372036854775808 ≤ x.2.2.2.1 ∧ x.2.2.2.1 < 9223372036854775808) ∧ (-9223372036854775808 ≤ x.2.2.2.2.1 ∧ x.2.2.2.2.1 < 9223372036854775808) ∧ (List.length x.2.2.2.2.2.1 ≤ 9223372036854775807 ∧ ∀ y ∈ x.2.2.2.2.2.1, zE y) ∧ True
def wC (x : mE) : Nat := (List.length x.2.2.2.2.2.1 + wl cX x.2.2.2.2.2.1)
theorem Lh (aU : Int) (aM : Int) (aN : Int) (aH : Int) (bc : Int) (aS : aG) {left : Int} (hz : Gk (aU, aM, aN, aH, bc, aS, ())) (h0 : 0 ≤ left) (h1 : left ≤ 1048576) : Left (qg aU aM aN aH bc aS left) (wC (aU, aM, aN, aH, bc, aS, ())) left := by
 have hz : (-9223372036854775808 ≤ aU ∧ aU < 9223372036854775808) ∧ (-9223372036854775808 ≤ aM ∧ aM < 9223372036854775808) ∧ (-9223372036854775808 ≤ aN ∧ aN < 9223372036854775808) ∧ (-9223372036854775808 ≤ aH ∧ aH < 9223372036854775808) ∧ (-9223372036854775808 ≤ bc ∧ bc < 9223372036854775808) ∧ (List.length aS ≤ 9223372036854775807 ∧ ∀ y ∈ aS, zE y) ∧ True := hz; show Left _ ((List.length aS + wl cX aS)) left; obtain ⟨z0, z1, z2, z3, z4, z5, _⟩ := hz; unfold qg; obtain ⟨m5, e5, l5, w5⟩ := zF aS (left := left) z5 (by omega) (by omega); rw [e5]; simp only [Option.bind_some]
 by_cases Wz : m5 < 0
 · rw [ai Wz]; exact ⟨-1, rfl, by omega, by omega⟩
 rw [aj Wz]; simp only [cond_false]; have w5 := w5 (by omega); exact ⟨_, rfl, by omega, by intro; omega⟩
def n9 (x : bE) : Prop := (-9223372036854775808 ≤ x.1 ∧ x.1 < 9223372036854775808) ∧ (-9223372036854775808 ≤ x.2.1 ∧ x.2.1 < 9223372036854775808) ∧ (List.length x.2.2.1 ≤ 9223372036854775807 ∧ ∀ y ∈ x.2.2.1, zE y) ∧ (List.length x.2.2.2.1 ≤ 9223372036854775807 ∧ ∀ y ∈ x.2.2.2.1, tJ y) ∧ (List.length x.2.2.2.2.1 ≤ 9223372036854775807 ∧ ∀ y ∈ x.2.2.2.2.1, zE y) ∧ (List.length x.2.2.2.2.2.1 ≤ 9223372036854775807 ∧ ∀ y ∈ x.2.2.2.2.2.1, Sr y) ∧ (-9223372036854775808 ≤ x.2.2.2.2.2.2.1 ∧ x.2.2.2.2.2.2.1 < 9223372036854775808) ∧ (-9223372036854775808 ≤ x.2.2.2.2.2.2.2.1 ∧ x.2.2.2.2.2.2.2.1 < 9223372036854775808) ∧ (-9223372036854775808 ≤ x.2.2.2.2.2.2.2.2.1 ∧ x.2.2.2.2.2.2.2.2.1 < 9223372036854775808) ∧ (-9223372036854775808 ≤ x.2.2.2.2.2.2.2.2.2.1 ∧ x.2.2.2.2.2.2.2.2.2.1 < 9223372036854775808) ∧ (-9223372036854775808 ≤ x.2.2.2.2.2.2.2.2.2.2.1 ∧ x.2.2.2.2.2.2.2.2.2.2.1 < 9223372036854775808) ∧ (-9223372036854775808 ≤ x.2.2.2.2.2.2.2.2.2.2.2.1 ∧ x.2.2.2.2.2.2.2.2.2.2.2.1 < 9223372036854775808) ∧ (-9223372036854775808 ≤ x.2.2.2.2.2.2.2.2.2.2.2.2.1 ∧ x.2.2.2.2.2.2.2.2.2.2.2.2.1 < 9223372036854775808) ∧ (-9223372036854775808 ≤ x.2.2.2.2.2.2.2.2.2.2.2.2.2.1 ∧ x.2.2.2.2.2.2.2.2.2.2.2.2.2.1 < 9223372036854775808) ∧ (-9223372036854775808 ≤ x.2.2.2.2.2.2.2.2.2.2.2.2.2.2.1 ∧ x.2.2.2.2.2.2.2.2.2.2.2.2.2.2.1 < 9223372036854775808) ∧ (List.length x.2.2.2.2.2.2.2.2.2.2.2.2.2.2.2.1 ≤ 9223372036854775807 ∧ ∀ y ∈ x.2.2.2.2.2.2.2.2.2.2.2.2.2.2.2.1, zE y) ∧ True
def eZ (x : bE) : Nat := (List.length x.2.2.1 + wl cX x.2.2.1) + (List.length x.2.2.2.1 + wl bn x.2.2.2.1) + (List.length x.2.2.2.2.1 + wl cX x.2.2.2.2.1) + (List.length x.2.2.2.2.2.1 + wl sm x.2.2.2.2.2.1) + (List.length x.2.2.2.2.2.2.2.2.2.2.2.2.2.2.2.1 + wl cX x.2.2.2.2.2.2.2.2.2.2.2.2.2.2.2.1)
theorem MV (aU : Int) (aM : Int) (aN : aG) (aH : ak) (bc : aG) (aS : hZ) (bS : Int) (bM : Int) (fy : Int) (fA : Int) (cB : Int) (cC : Int) (cD : Int) (cE : Int) (cF : Int) (bC : aG) {left : Int} (hz : n9 (aU, aM, aN, aH, bc, aS, bS, bM, fy, fA, cB, cC, cD, cE, cF, bC, ())) (h0 : 0 ≤ left) (h1 : left ≤ 1048576) : Left (rD aU aM aN aH bc aS bS bM fy fA cB cC cD cE cF bC left) (eZ (aU, aM, aN, aH, bc, aS, bS, bM, fy, fA, cB, cC, cD, cE, cF, bC, ())) left := by
 have hz : (-9223372036854775808 ≤ aU ∧ aU < 9223372036854775808) ∧ (-9223372036854775808 ≤ aM ∧ aM < 9223372036854775808) ∧ (List.length aN ≤ 9223372036854775807 ∧ ∀ y ∈ aN, zE y) ∧ (List.length aH ≤ 9223372036854775807 ∧ ∀ y ∈ aH, tJ y) ∧ (List.length bc ≤ 9223372036854775807 ∧ ∀ y ∈ bc, zE y) ∧ (List.length aS ≤ 9223372036854775807 ∧ ∀ y ∈ aS, Sr y) ∧ (-9223372036854775808 ≤ bS ∧ bS < 9223372036854775808) ∧ (-9223372036854775808 ≤ bM ∧ bM < 9223372036854775808) ∧ (-9223372036854775808 ≤ fy ∧ fy < 9223372036854775808) ∧ (-9223372036854775808 ≤ fA ∧ fA < 9223372036854775808) ∧ (-9223372036854775808 ≤ cB ∧ cB < 9223372036854775808) ∧ (-9223372036854775808 ≤ cC ∧ cC < 9223372036854775808) ∧ (-9223372036854775808 ≤ cD ∧ cD < 9223372036854775808) ∧ (-9223372036854775808 ≤ cE ∧ cE < 9223372036854775808) ∧ (-9223372036854775808 ≤ cF ∧ cF < 9223372036854775808) ∧ (List.length bC ≤ 9223372036854775807 ∧ ∀ y ∈ bC, zE y) ∧ True := hz; show Left _ ((List.length aN + wl cX aN) + (List.length aH + wl bn aH) + (List.length bc + wl cX bc) + (List.length aS + wl sm aS) + (List.length bC + wl cX bC)) left; obtain ⟨z0, z1, z2, z3, z4, z5, z6, z7, z8, z9, z10, z11, z12, z13, z14, z15, _⟩ := hz; unfold rD; obtain ⟨m1, e1, l1, w1⟩ := Dg aM aN (left := left) ⟨z1, z2, trivial⟩ (by omega) (by omega); have w1 : 0 ≤ m1 → (((List.length aN + wl cX aN) : Nat) : Int) + m1 ≤ left := w1; rw [e1]; simp only [Option.bind_some]
 by_cases LQ : m1 < 0
 · rw [ai LQ]; exact ⟨-1, rfl, by omega, by omega⟩
 rw [aj LQ]; simp only [cond_false]; have w1 := w1 (by omega); obtain ⟨m3, e3, l3, w3⟩ := EU aH (left := m1) z3 (by omega) (by omega); rw [e3]; simp only [Option.bind_some]
 by_cases Lg : m3 < 0
 · rw [ai Lg]; exact ⟨-1, rfl, by omega, by omega⟩
 rw [aj Lg]; simp only [cond_false]; have w3 := w3 (by omega); obtain ⟨m4, e4, l4, w4⟩ := zF bc (left := m3) z4 (by omega) (by omega); rw [e4]; simp only [Option.bind_some]
 by_cases hd4 : m4 < 0
 · rw [ai hd4]; exact ⟨-1, rfl, by omega, by omega⟩
 rw [aj hd4]; simp only [cond_false]; have w4 := w4 (by omega); obtain ⟨m5, e5, l5, w5⟩ := Gj aS (left := m4) z5 (by omega) (by omega); rw [e5]; simp only [Option.bind_some]
 by_cases Wz : m5 < 0
 · rw [ai Wz]; exact ⟨-1, rfl, by omega, by omega⟩
 rw [aj Wz]; simp only [cond_false]; have w5 := w5 (by omega); obtain ⟨m10, Q7, l10, XM⟩ := Lh cB cC cD cE cF bC (left := m5) ⟨z10, z11, z12, z13, z14, z15, trivial⟩ (by omega) (by omega); have XM : 0 ≤ m10 → (((List.length bC + wl cX bC) : Nat) : Int) + m10 ≤ m5 := XM; rw [Q7]; simp only [Option.bind_some]
 by_cases WA : m10 < 0
 · rw [ai WA]; exact ⟨-1, rfl, by omega, by omega⟩
 rw [aj WA]; simp only [cond_false]; have XM := XM (by omega); exact ⟨_, rfl, by omega, by intro; omega⟩
def mW (x : bw) : Prop := (-9223372036854775808 ≤ x.1 ∧ x.1 < 9223372036854775808) ∧ (-9223372036854775808 ≤ x.2.1 ∧ x.2.1 < 9223372036854775808) ∧ (-9223372036854775808 ≤ x.2.2.1 ∧ x.2.2.1 < 9223372036854775808) ∧ (List.length x.2.2.2.1 ≤ 9223372036854775807 ∧ ∀ y ∈ x.2.2.2.1, tJ y) ∧ True
theorem EV {x : bw} (h : xt da x) : mW x := ⟨ev (aa.1 h).1, ev (aa.1 (aa.1 h).2).1, ev (aa.1 (aa.1 (aa.1 h).2).2).1, ⟨pO (aa.1 (aa.1 (aa.1 (aa.1 h).2).2).2).1, fun y hy => Gi (ua (aa.1 (aa.1 (aa.1 (aa.1 h).2).2).2).1 y hy)⟩, trivial⟩
def aF (x : bw) : Nat := (List.length x.2.2.2.1 + wl bn x.2.2.2.1)
theorem Cg (aU : Int) (aM : Int) (aN : Int) (aH : ak) {left : Int} (hz : mW (aU, aM, aN, aH, ())) (h0 : 0 ≤ left) (h1 : left ≤ 1048576) : Left (j1 aU aM aN aH left) (aF (aU, aM, aN, aH, ())) left := by
 have hz : (-9223372036854775808 ≤ aU ∧ aU < 9223372036854775808) ∧ (-9223372036854775808 ≤ aM ∧ aM < 9223372036854775808) ∧ (-9223372036854775808 ≤ aN ∧ aN < 9223372036854775808) ∧ (List.length aH ≤ 9223372036854775807 ∧ ∀ y ∈ aH, tJ y) ∧ True := hz; show Left _ ((List.length aH + wl bn aH)) left; obtain ⟨z0, z1, z2, z3, _⟩ := hz; unfold j1; obtain ⟨m3, e3, l3, w3⟩ := EU aH (left := left) z3 (by omega) (by omega); rw [e3]; simp only [Option.bind_some]
 by_cases Lg : m3 < 0
 · rw [ai Lg]; exact ⟨-1, rfl, by omega, by omega⟩
 rw [aj Lg]; simp only [cond_false]; have w3 := w3 (by omega); exact ⟨_, rfl, by omega, by intro; omega⟩
theorem Gl (a0 : af) {left : Int} (hz : List.length a0 ≤ 9223372036854775807 ∧ ∀ y ∈ a0, mW y) (h0 : 0 ≤ left) (h1 : left ≤ 1048576) : Left (nw a0 left) (List.length a0 + wl aF a0) left := by
 obtain ⟨hlen, Ia⟩ := hz; unfold nw; rw [ej (by omega) (by omega)]
 by_cases hd : left - ((List.length a0 : Nat) : Int) < 0
 · rw [ai hd]; exact ⟨-1, rfl, by omega, by omega⟩
 rw [aj hd]; simp only [cond_false]; obtain ⟨e, he, hq⟩ := eH (round := iF) (x := (a0, left - ((List.length a0 : Nat) : Int), ((0 : Nat) : Int), ())) a0.length (fun k x => ∃ m : Int, x = (a0, m, ((k : Nat) : Int), ()) ∧ 0 ≤ m ∧ ((a0.length + wl aF (a0.take k) : Nat) : Int) + m ≤ left)
   (fun e => match e with
     | .inl y => 0 ≤ y.1 ∧ ((a0.length + wl aF a0 : Nat) : Int) + y.1 ≤ left
     | .inr y => y.1 = -1) (by
     rintro x ⟨m, rfl, g1, g2⟩
     refine ⟨.inl (m, ()), ?_, g1, by rw [List.take_length] at g2; exact g2⟩; simp only [iF, nv, ax, cond_false]) (by
     rintro k x hk ⟨m, rfl, g1, g2⟩
     have hw := tv aF a0 hk; have hz := Ia _ (List.getElem_mem hk); obtain ⟨m', e', l', w'⟩ := Cg ((a0[k]).1) ((a0[k]).2.1) ((a0[k]).2.2.1) ((a0[k]).2.2.2.1) (left := m) hz g1 (by omega); have w' : 0 ≤ m' → ((aF a0[k] : Nat) : Int) + m' ≤ m := w'; simp only [iF, nv, aw hk, aq, cond_true, az, List.getElem?_eq_getElem hk, Option.bind_some, e', aA (show k < 4611686018427387904 by omega)]
     by_cases hm : m' < 0
     · rw [ai hm]; exact .inl ⟨.inr (-1, ()), rfl, rfl⟩
     · rw [aj hm]; have w' := w' (by omega); exact .inr ⟨_, rfl, _, rfl, by omega, by omega⟩)
     ⟨_, rfl, by omega, by rw [List.take_zero, u0]; omega⟩
 rw [show (0 : Int) = ((0 : Nat) : Int) from rfl, he]
 cases e with
 | inl y => exact ⟨y.1, rfl, by have := hq.1; omega, fun _ => hq.2⟩
 | inr y => exact ⟨y.1, rfl, by rw [show y.1 = -1 from hq]; omega, by rw [show y.1 = -1 from hq]; omega⟩
def k8 (x : bF) : Prop := (-9223372036854775808 ≤ x.1 ∧ x.1 < 9223372036854775808) ∧ (-9223372036854775808 ≤ x.2.1 ∧ x.2.1 < 9223372036854775808) ∧ (List.length x.2.2.1 ≤ 9223372036854775807 ∧ ∀ y ∈ x.2.2.1, zE y) ∧ (-9223372036854775808 ≤ x.2.2.2.1 ∧ x.2.2.2.1 < 9223372036854775808) ∧ (-9223372036854775808 ≤ x.2.2.2.2.1 ∧ x.2.2.2.2.1 < 9223372036854775808) ∧ (-9223372036854775808 ≤ x.2.2.2.2.2.1 ∧ x.2.2.2.2.2.1 < 9223372036854775808) ∧ (ByteArray.size x.2.2.2.2.2.2.1 ≤ 9223372036854775807) ∧ (List.length x.2.2.2.2.2.2.2.1 ≤ 9223372036854775807 ∧ ∀ y ∈ x.2.2.2.2.2.2.2.1, zE y) ∧ True
theorem AS {x : bF} (h : xt ca x) : k8 x := ⟨ev (aa.1 h).1, ev (aa.1 (aa.1 h).2).1, ⟨pO (aa.1 (aa.1 (aa.1 h).2).2).1, fun y hy => Sq (ua (aa.1 (aa.1 (aa.1 h).2).2).1 y hy)⟩, ev (aa.1 (aa.1 (aa.1 (aa.1 h).2).2).2).1, ev (aa.1 (aa.1 (aa.1 (aa.1 (aa.1 h).2).2).2).2).1, ev (aa.1 (aa.1 (aa.1 (aa.1 (aa.1 (aa.1 h).2).2).2).2).2).1, FY (aa.1 (aa.1 (aa.1 (aa.1 (aa.1 (aa.1 (aa.1 h).2).2).2).2).2).2).1, ⟨pO (aa.1 (aa.1 (aa.1 (aa.1 (aa.1 (aa.1 (aa.1 (aa.1 h).2).2).2).2).2).2).2).1, fun y hy => Sq (ua (aa.1 (aa.1 (aa.1 (aa.1 (aa.1 (aa.1 (aa.1 (aa.1 h).2).2).2).2).2).2).2).1 y hy)⟩, trivial⟩
def au (x : bF) : Nat := (List.length x.2.2.1 + wl cX x.2.2.1) + ByteArray.size x.2.2.2.2.2.2.1 + (List.length x.2.2.2.2.2.2.2.1 + wl cX x.2.2.2.2.2.2.2.1)
theorem Li (aU : Int) (aM : Int) (aN : aG) (aH : Int) (bc : Int) (aS : Int) (bS : ByteArray) (bM : aG) {left : Int} (hz : k8 (aU, aM, aN, aH, bc, aS, bS, bM, ())) (h0 : 0 ≤ left) (h1 : left ≤ 1048576) : Left (qh aU aM aN aH bc aS bS bM left) (au (aU, aM, aN, aH, bc, aS, bS, bM, ())) left := by
 have hz : (-9223372036854775808 ≤ aU ∧ aU < 9223372036854775808) ∧ (-9223372036854775808 ≤ aM ∧ aM < 9223372036854775808) ∧ (List.length aN ≤ 9223372036854775807 ∧ ∀ y ∈ aN, zE y) ∧ (-9223372036854775808 ≤ aH ∧ aH < 9223372036854775808) ∧ (-9223372036854775808 ≤ bc ∧ bc < 9223372036854775808) ∧ (-9223372036854775808 ≤ aS ∧ aS < 9223372036854775808) ∧ (ByteArray.size bS ≤ 9223372036854775807) ∧ (List.length bM ≤ 9223372036854775807 ∧ ∀ y ∈ bM, zE y) ∧ True := hz; show Left _ ((List.length aN + wl cX aN) + ByteArray.size bS + (List.length bM + wl cX bM)) left; obtain ⟨z0, z1, z2, z3, z4, z5, z6, z7, _⟩ := hz; unfold qh; obtain ⟨m1, e1, l1, w1⟩ := Dg aM aN (left := left) ⟨z1, z2, trivial⟩ (by omega) (by omega); have w1 : 0 ≤ m1 → (((List.length aN + wl cX aN) : Nat) : Int) + m1 ≤ left := w1; rw [e1]; simp only [Option.bind_some]
 by_cases LQ : m1 < 0
 · rw [ai LQ]; exact ⟨-1, rfl, by omega, by omega⟩
 rw [aj LQ]; simp only [cond_false]; have w1 := w1 (by omega); obtain ⟨m3, e3, l3, w3⟩ := Hk aH bc aS bS (left := m1) ⟨z3, z4, z5, z6, trivial⟩ (by omega) (by omega); have w3 : 0 ≤ m3 → ((ByteArray.size bS : Nat) : Int) + m3 ≤ m1 := w3; rw [e3]; simp only [Option.bind_some]
 by_cases Lg : m3 < 0
 · rw [ai Lg]; exact ⟨-1, rfl, by omega, by omega⟩
 rw [aj Lg]; simp only [cond_false]; have w3 := w3 (by omega); obtain ⟨m7, e7, l7, w7⟩ := zF bM (left := m3) z7 (by omega) (by omega); rw [e7]; simp only [Option.bind_some]
 by_cases hd7 : m7 < 0
 · rw [ai hd7]; exact ⟨-1, rfl, by omega, by omega⟩
 rw [aj hd7]; simp only [cond_false]; have w7 := w7 (by omega); exact ⟨_, rfl, by omega, by intro; omega⟩
theorem IZ (a0 : ah) {left : Int} (hz : List.length a0 ≤ 9223372036854775807 ∧ ∀ y ∈ a0, k8 y) (h0 : 0 ≤ left) (h1 : left ≤ 1048576) : Left (pk a0 left) (List.length a0 + wl au a0) left := by
 obtain ⟨hlen, Ia⟩ := hz; unfold pk; rw [ej (by omega) (by omega)]
 by_cases hd : left - ((List.length a0 : Nat) : Int) < 0
 · rw [ai hd]; exact ⟨-1, rfl, by omega, by omega⟩
 rw [aj hd]; simp only [cond_false]; obtain ⟨e, he, hq⟩ := eH (round := jg) (x := (a0, left - ((List.length a0 : Nat) : Int), ((0 : Nat) : Int), ())) a0.length (fun k x => ∃ m : Int, x = (a0, m, ((k : Nat) : Int), ()) ∧ 0 ≤ m ∧ ((a0.length + wl au (a0.take k) : Nat) : Int) + m ≤ left)
   (fun e => match e with
     | .inl y => 0 ≤ y.1 ∧ ((a0.length + wl au a0 : Nat) : Int) + y.1 ≤ left
     | .inr y => y.1 = -1) (by
     rintro x ⟨m, rfl, g1, g2⟩
     refine ⟨.inl (m, ()), ?_, g1, by rw [List.take_length] at g2; exact g2⟩; simp only [jg, oP, ax, cond_false]) (by
     rintro k x hk ⟨m, rfl, g1, g2⟩
     have hw := tv au a0 hk; have hz := Ia _ (List.getElem_mem hk); obtain ⟨m', e', l', w'⟩ := Li ((a0[k]).1) ((a0[k]).2.1) ((a0[k]).2.2.1) ((a0[k]).2.2.2.1) ((a0[k]).2.2.2.2.1) ((a0[k]).2.2.2.2.2.1) ((a0[k]).2.2.2.2.2.2.1) ((a0[k]).2.2.2.2.2.2.2.1) (left := m) hz g1 (by omega); have w' : 0 ≤ m' → ((au a0[k] : Nat) : Int) + m' ≤ m := w'; simp only [jg, oP, aw hk, aq, cond_true, az, List.getElem?_eq_getElem hk, Option.bind_some, e', aA (show k < 4611686018427387904 by omega)]
     by_cases hm : m' < 0
     · rw [ai hm]; exact .inl ⟨.inr (-1, ()), rfl, rfl⟩
     · rw [aj hm]; have w' := w' (by omega); exact .inr ⟨_, rfl, _, rfl, by omega, by omega⟩)
     ⟨_, rfl, by omega, by rw [List.take_zero, u0]; omega⟩
 rw [show (0 : Int) = ((0 : Nat) : Int) from rfl, he]
 cases e with
 | inl y => exact ⟨y.1, rfl, by have := hq.1; omega, fun _ => hq.2⟩
 | inr y => exact ⟨y.1, rfl, by rw [show y.1 = -1 from hq]; omega, by rw [show y.1 = -1 from hq]; omega⟩
def cG (x : ae) : Prop := (-9223372036854775808 ≤ x.1 ∧ x.1 < 9223372036854775808) ∧ (True) ∧ (-9223372036854775808 ≤ x.2.2.1 ∧ x.2.2.1 < 9223372036854775808) ∧ (-9223372036854775808 ≤ x.2.2.2.1 ∧ x.2.2.2.1 < 9223372036854775808) ∧ (List.length x.2.2.2.2.1 ≤ 9223372036854775807 ∧ ∀ y ∈ x.2.2.2.2.1, zE y) ∧ (List.length x.2.2.2.2.2.1 ≤ 9223372036854775807 ∧ ∀ y ∈ x.2.2.2.2.2.1, tJ y) ∧ (List.length x.2.2.2.2.2.2.1 ≤ 9223372036854775807 ∧ ∀ y ∈ x.2.2.2.2.2.2.1, zE y) ∧ (List.length x.2.2.2.2.2.2.2.1 ≤ 9223372036854775807 ∧ ∀ y ∈ x.2.2.2.2.2.2.2.1, Sr y) ∧ (-9223372036854775808 ≤ x.2.2.2.2.2.2.2.2.1 ∧ x.2.2.2.2.2.2.2.2.1 < 9223372036854775808) ∧ (-9223372036854775808 ≤ x.2.2.2.2.2.2.2.2.2.1 ∧ x.2.2.2.2.2.2.2.2.2.1 < 9223372036854775808) ∧ (-9223372036854775808 ≤ x.2.2.2.2.2.2.2.2.2.2.1 ∧ x.2.2.2.2.2.2.2.2.2.2.1 < 9223372036854775808) ∧ (-9223372036854775808 ≤ x.2.2.2.2.2.2.2.2.2.2.2.1 ∧ x.2.2.2.2.2.2.2.2.2.2.2.1 < 9223372036854775808) ∧ (-9223372036854775808 ≤ x.2.2.2.2.2.2.2.2.2.2.2.2.1 ∧ x.2.2.2.2.2.2.2.2.2.2.2.2.1 < 9223372036854775808) ∧ (-9223372036854775808 ≤ x.2.2.2.2.2.2.2.2.2.2.2.2.2.1 ∧ x.2.2.2.2.2.2.2.2.2.2.2.2.2.1 < 9223372036854775808) ∧ (-9223372036854775808 ≤ x.2.2.2.2.2.2.2.2.2.2.2.2.2.2.1 ∧ x.2.2.2.2.2.2.2.2.2.2.2.2.2.2.1 < 9223372036854775808) ∧ (-9223372036854775808 ≤ x.2.2.2.2.2.2.2.2.2.2.2.2.2.2.2.1 ∧ x.2.2.2.2.2.2.2.2.2.2.2.2.2.2.2.1 < 9223372036854775808) ∧ (-9223372036854775808 ≤ x.2.2.2.2.2.2.2.2.2.2.2.2.2.2.2.2.1 ∧ x.2.2.2.2.2.2.2.2.2.2.2.2.2.2.2.2.1 < 9223372036854775808) ∧ (List.length x.2.2.2.2.2.2.2.2.2.2.2.2.2.2.2.2.2.1 ≤ 9223372036854775807 ∧ ∀ y ∈ x.2.2.2.2.2.2.2.2.2.2.2.2.2.2.2.2.2.1, zE y) ∧ (-9223372036854775808 ≤ x.2.2.2.2.2.2.2.2.2.2.2.2.2.2.2.2.2.2.1 ∧ x.2.2.2.2.2.2.2.2.2.2.2.2.2.2.2.2.2.2.1 < 9223372036854775808) ∧ (-9223372036854775808 ≤ x.2.2.2.2.2.2.2.2.2.2.2.2.2.2.2.2.2.2.2.1 ∧ x.2.2.2.2.2.2.2.2.2.2.2.2.2.2.2.2.2.2.2.1 < 9223372036854775808) ∧ (-9223372036854775808 ≤ x.2.2.2.2.2.2.2.2.2.2.2.2.2.2.2.2.2.2.2.2.1 ∧ x.2.2.2.2.2.2.2.2.2.2.2.2.2.2.2.2.2.2.2.2.1 < 9223372036854775808) ∧ (List.length x.2.2.2.2.2.2.2.2.2.2.2.2.2.2.2.2.2.2.2.2.2.1 ≤ 9223372036854775807 ∧ ∀ y ∈ x.2.2.2.2.2.2.2.2.2.2.2.2.2.2.2.2.2.2.2.2.2.1, zE y) ∧ (List.length x.2.2.2.2.2.2.2.2.2.2.2.2.2.2.2.2.2.2.2.2.2.2.1 ≤ 9223372036854775807 ∧ ∀ y ∈ x.2.2.2.2.2.2.2.2.2.2.2.2.2.2.2.2.2.2.2.2.2.2.1, mW y) ∧ (List.length x.2.2.2.2.2.2.2.2.2.2.2.2.2.2.2.2.2.2.2.2.2.2.2.1 ≤ 9223372036854775807 ∧ ∀ y ∈ x.2.2.2.2.2.2.2.2.2.2.2.2.2.2.2.2.2.2.2.2.2.2.2.1, k8 y) ∧ True
def bu (x : ae) : Nat := (List.length x.2.2.2.2.1 + wl cX x.2.2.2.2.1) + (List.length x.2.2.2.2.2.1 + wl bn x.2.2.2.2.2.1) + (List.length x.2.2.2.2.2.2.1 + wl cX x.2.2.2.2.2.2.1) + (List.length x.2.2.2.2.2.2.2.1 + wl sm x.2.2.2.2.2.2.2.1) + (List.length x.2.2.2.2.2.2.2.2.2.2.2.2.2.2.2.2.2.1 + wl cX x.2.2.2.2.2.2.2.2.2.2.2.2.2.2.2.2.2.1) + (List.length x.2.2.2.2.2.2.2.2.2.2.2.2.2.2.2.2.2.2.2.2.2.1 + wl cX x.2.2.2.2.2.2.2.2.2.2.2.2.2.2.2.2.2.2.2.2.2.1) + (List.length x.2.2.2.2.2.2.2.2.2.2.2.2.2.2.2.2.2.2.2.2.2.2.1 + wl aF x.2.2.2.2.2.2.2.2.2.2.2.2.2.2.2.2.2.2.2.2.2.2.1) + (List.length x.2.2.2.2.2.2.2.2.2.2.2.2.2.2.2.2.2.2.2.2.2.2.2.1 + wl au x.2.2.2.2.2.2.2.2.2.2.2.2.2.2.2.2.2.2.2.2.2.2.2.1)
theorem I0 (aU : Int) (aM : Bool) (aN : Int) (aH : Int) (bc : aG) (aS : ak) (bS : aG) (bM : hZ) (fy : Int) (fA : Int) (cB : Int) (cC : Int) (cD : Int) (cE : Int) (cF : Int) (bC : Int) (ic : Int) (cW : aG) (kJ : Int) (kK : Int) (ie : Int) (db : aG) (de : af) (dq : ah) {left : Int} (hz : cG (aU, aM, aN, aH, bc, aS, bS, bM, fy, fA, cB, cC, cD, cE, cF, bC, ic, cW, kJ, kK, ie, db, de, dq, ())) (h0 : 0 ≤ left) (h1 : left ≤ 1048576) : Left (lZ aU aM aN aH bc aS bS bM fy fA cB cC cD cE cF bC ic cW kJ kK ie db de dq left) (bu (aU, aM, aN, aH, bc, aS, bS, bM, fy, fA, cB, cC, cD, cE, cF, bC, ic, cW, kJ, kK, ie, db, de, dq, ())) left := by
 have hz : (-9223372036854775808 ≤ aU ∧ aU < 9223372036854775808) ∧ (True) ∧ (-9223372036854775808 ≤ aN ∧ aN < 9223372036854775808) ∧ (-9223372036854775808 ≤ aH ∧ aH < 9223372036854775808) ∧ (List.length bc ≤ 9223372036854775807 ∧ ∀ y ∈ bc, zE y) ∧ (List.length aS ≤ 9223372036854775807 ∧ ∀ y ∈ aS, tJ y) ∧ (List.length bS ≤ 9223372036854775807 ∧ ∀ y ∈ bS, zE y) ∧ (List.length bM ≤ 9223372036854775807 ∧ ∀ y ∈ bM, Sr y) ∧ (-9223372036854775808 ≤ fy ∧ fy < 9223372036854775808) ∧ (-9223372036854775808 ≤ fA ∧ fA < 9223372036854775808) ∧ (-9223372036854775808 ≤ cB ∧ cB < 9223372036854775808) ∧ (-9223372036854775808 ≤ cC ∧ cC < 9223372036854775808) ∧ (-9223372036854775808 ≤ cD ∧ cD < 9223372036854775808) ∧ (-9223372036854775808 ≤ cE ∧ cE < 9223372036854775808) ∧ (-9223372036854775808 ≤ cF ∧ cF < 9223372036854775808) ∧ (-9223372036854775808 ≤ bC ∧ bC < 9223372036854775808) ∧ (-9223372036854775808 ≤ ic ∧ ic < 9223372036854775808) ∧ (List.length cW ≤ 9223372036854775807 ∧ ∀ y ∈ cW, zE y) ∧ (-9223372036854775808 ≤ kJ ∧ kJ < 9223372036854775808) ∧ (-9223372036854775808 ≤ kK ∧ kK < 9223372036854775808) ∧ (-9223372036854775808 ≤ ie ∧ ie < 9223372036854775808) ∧ (List.length db ≤ 9223372036854775807 ∧ ∀ y ∈ db, zE y) ∧ (List.length de ≤ 9223372036854775807 ∧ ∀ y ∈ de, mW y) ∧ (List.length dq ≤ 9223372036854775807 ∧ ∀ y ∈ dq, k8 y) ∧ True := hz; show Left _ ((List.length bc + wl cX bc) + (List.length aS + wl bn aS) + (List.length bS + wl cX bS) + (List.length bM + wl sm bM) + (List.length cW + wl cX cW) + (List.length db + wl cX db) + (List.length de + wl aF de) + (List.length dq + wl au dq)) left; obtain ⟨z0, z1, z2, z3, z4, z5, z6, z7, z8, z9, z10, z11, z12, z13, z14, z15, z16, z17, z18, z19, z20, z21, z22, z23, _⟩ := hz; unfold lZ; obtain ⟨m2, e2, l2, w2⟩ := MV aN aH bc aS bS bM fy fA cB cC cD cE cF bC ic cW (left := left) ⟨z2, z3, z4, z5, z6, z7, z8, z9, z10, z11, z12, z13, z14, z15, z16, z17, trivial⟩ (by omega) (by omega); have w2 : 0 ≤ m2 → (((List.length bc + wl cX bc) + (List.length aS + wl bn aS) + (List.length bS + wl cX bS) + (List.length bM + wl sm bM) + (List.length cW + wl cX cW) : Nat) : Int) + m2 ≤ left := w2; rw [e2]; simp only [Option.bind_some]
 by_cases Xt : m2 < 0
 · rw [ai Xt]; exact ⟨-1, rfl, by omega, by omega⟩
 rw [aj Xt]; simp only [cond_false]; have w2 := w2 (by omega); obtain ⟨XN, e20, l20, XO⟩ := Dg ie db (left := m2) ⟨z20, z21, trivial⟩ (by omega) (by omega); have XO : 0 ≤ XN → (((List.length db + wl cX db) : Nat) : Int) + XN ≤ m2 := XO; rw [e20]; simp only [Option.bind_some]
 by_cases WB : XN < 0
 · rw [ai WB]; exact ⟨-1, rfl, by omega, by omega⟩
 rw [aj WB]; simp only [cond_false]; have XO := XO (by omega); obtain ⟨m22, e22, Ss, w22⟩ := Gl de (left := XN) z22 (by omega) (by omega); rw [e22]; simp only [Option.bind_some]
 by_cases WC : m22 < 0
 · rw [ai WC]; exact ⟨-1, rfl, by omega, by omega⟩
 rw [aj WC]; simp only [cond_false]; have w22 := w22 (by omega); obtain ⟨m23, e23, Su, w23⟩ := IZ dq (left := m22) z23 (by omega) (by omega); rw [e23]; simp only [Option.bind_some]
 by_cases WD : m23 < 0
 · rw [ai WD]; exact ⟨-1, rfl, by omega, by omega⟩
 rw [aj WD]; simp only [cond_false]; have w23 := w23 (by omega); exact ⟨_, rfl, by omega, by intro; omega⟩
theorem zG (a0 : aG) (h : List.length a0 + wl cX a0 ≤ 4194304) : kL a0 = some (a0, ()) := by
 have hl : aD jh (a0, List.replicate a0.length ((0 : Int), ()), (0 : Int), ()) = some (.inl (a0, ())) := by
   have := bK (round := jh) (e := .inl (a0, ())) a0.length (fun k => (a0, a0.take k ++ List.replicate (a0.length - k) ((0 : Int), ()), ((k : Nat) : Int), ())) (by
     simp only [jh, qR, ax, cond_false, List.take_length, Nat.sub_self, List.replicate_zero, List.append_nil]) (fun k hk => by
     have hb : k < (a0.take k ++ List.replicate (a0.length - k) (((0 : Int), ()) : Int × Unit)).length := by simp; omega
     simp only [jh, qR, aw hk, aq, cond_true, az, List.getElem?_eq_getElem hk, List.getElem?_eq_getElem hb, Option.bind_some, fJ hb, aA (show k < 4611686018427387904 by omega)]; rw [← uZ a0 _ hk])
   simpa using this
 unfold kL; simp only [decide_true, aq, cond_true, az, bh (show a0.length * 8 ≤ lim by unfold lim; omega), hl, iD]
theorem Dh (aU : Int) (aM : aG) (h : Gh (aU, aM, ()) ≤ 4194304) : mU aU aM = some (aU, aM, ()) := by
 have h : (List.length aM + wl cX aM) ≤ 4194304 := h; unfold mU; simp only [Option.bind_some, zG aM (by show (List.length aM + wl cX aM) ≤ 4194304; omega)]
theorem Hl (aU : Int) (aM : Int) (aN : Int) (aH : ByteArray) (h : bn (aU, aM, aN, aH, ()) ≤ 4194304) : rE aU aM aN aH = some (aU, aM, aN, aH, ()) := by
 have h : ByteArray.size aH ≤ 4194304 := h; rfl
theorem EW (a0 : ak) (h : List.length a0 + wl bn a0 ≤ 4194304) : nz a0 = some (a0, ()) := by
 have hl : aD iq (a0, List.replicate a0.length ((0 : Int), (0 : Int), (0 : Int), ByteArray.empty, ()), (0 : Int), ()) = some (.inl (a0, ())) := by
   have := bK (round := iq) (e := .inl (a0, ())) a0.length (fun k => (a0, a0.take k ++ List.replicate (a0.length - k) ((0 : Int), (0 : Int), (0 : Int), ByteArray.empty, ()), ((k : Nat) : Int), ())) (by
     simp only [iq, pQ, ax, cond_false, List.take_length, Nat.sub_self, List.replicate_zero, List.append_nil]) (fun k hk => by
     have hb : k < (a0.take k ++ List.replicate (a0.length - k) (((0 : Int), (0 : Int), (0 : Int), ByteArray.empty, ()) : mD)).length := by simp; omega
     simp only [iq, pQ, aw hk, aq, cond_true, az, List.getElem?_eq_getElem hk, List.getElem?_eq_getElem hb, Option.bind_some, fJ hb, aA (show k < 4611686018427387904 by omega), Hl ((a0[k]).1) ((a0[k]).2.1) ((a0[k]).2.2.1) ((a0[k]).2.2.2.1) (Nat.le_trans (pN bn a0 _ (List.getElem_mem hk)) (by omega))]; rw [← uZ a0 _ hk])
   simpa using this
 unfold nz; simp only [decide_true, aq, cond_true, az, bh (show a0.length * 40 ≤ lim by unfold lim; omega), hl, iD]
theorem Gm (a0 : hZ) (h : List.length a0 + wl sm a0 ≤ 4194304) : nB a0 = some (a0, ()) := by
 have hl : aD fV (a0, List.replicate a0.length (ByteArray.empty, ()), (0 : Int), ()) = some (.inl (a0, ())) := by
   have := bK (round := fV) (e := .inl (a0, ())) a0.length (fun k => (a0, a0.take k ++ List.replicate (a0.length - k) (ByteArray.empty, ()), ((k : Nat) : Int), ())) (by
     simp only [fV, nA, ax, cond_false, List.take_length, Nat.sub_self, List.replicate_zero, List.append_nil]) (fun k hk => by
     have hb : k < (a0.take k ++ List.replicate (a0.length - k) ((ByteArray.empty, ()) : ByteArray × Unit)).length := by simp; omega
     simp only [fV, nA, aw hk, aq, cond_true, az, List.getElem?_eq_getElem hk, List.getElem?_eq_getElem hb, Option.bind_some, fJ hb, aA (show k < 4611686018427387904 by omega)]; rw [← uZ a0 _ hk])
   simpa using this
 unfold nB; simp only [decide_true, aq, cond_true, az, bh (show a0.length * 16 ≤ lim by unfold lim; omega), hl, iD]
theorem Lj (aU : Int) (aM : Int) (aN : Int) (aH : Int) (bc : Int) (aS : aG) (h : wC (aU, aM, aN, aH, bc, aS, ()) ≤ 4194304) : qi aU aM aN aH bc aS = some (aU, aM, aN, aH, bc, aS, ()) := by
 have h : (List.length aS + wl cX aS) ≤ 4194304 := h; unfold qi; simp only [Option.bind_some, zG aS (by show (List.length aS + wl cX aS) ≤ 4194304; omega)]
theorem MW (aU : Int) (aM : Int) (aN : aG) (aH : ak) (bc : aG) (aS : hZ) (bS : Int) (bM : Int) (fy : Int) (fA : Int) (cB : Int) (cC : Int) (cD : Int) (cE : Int) (cF : Int) (bC : aG) (h : eZ (aU, aM, aN, aH, bc, aS, bS, bM, fy, fA, cB, cC, cD, cE, cF, bC, ()) ≤ 4194304) : rF aU aM aN aH bc aS bS bM fy fA cB cC cD cE cF bC = some (aU, aM, aN, aH, bc, aS, bS, bM, fy, fA, cB, cC, cD, cE, cF, bC, ()) := by
 have h : (List.length aN + wl cX aN) + (List.length aH + wl bn aH) + (List.length bc + wl cX bc) + (List.length aS + wl sm aS) + (List.length bC + wl cX bC) ≤ 4194304 := h; unfold rF; simp only [Option.bind_some, Dh aM aN (by show (List.length aN + wl cX aN) ≤ 4194304; omega), EW aH (by show (List.length aH + wl bn aH) ≤ 4194304; omega), zG bc (by show (List.length bc + wl cX bc) ≤ 4194304; omega), Gm aS (by show (List.length aS + wl sm aS) ≤ 4194304; omega), Lj cB cC cD cE cF bC (by show (List.length bC + wl cX bC) ≤ 4194304; omega)]
theorem Ch (aU : Int) (aM : Int) (aN : Int) (aH : ak) (h : aF (aU, aM, aN, aH, ()) ≤ 4194304) : cw aU aM aN aH = some (aU, aM, aN, aH, ()) := by
 have h : (List.length aH + wl bn aH) ≤ 4194304 := h; unfold cw; simp only [Option.bind_some, EW aH (by show (List.length aH + wl bn aH) ≤ 4194304; omega)]
theorem Gn (a0 : af) (h : List.length a0 + wl aF a0 ≤ 4194304) : nD a0 = some (a0, ()) := by
 have hl : aD fW (a0, List.replicate a0.length ((0 : Int), (0 : Int), (0 : Int), [], ()), (0 : Int), ()) = some (.inl (a0, ())) := by
   have := bK (round := fW) (e := .inl (a0, ())) a0.length (fun k => (a0, a0.take k ++ List.replicate (a0.length - k) ((0 : Int), (0 : Int), (0 : Int), [], ()), ((k : Nat) : Int), ())) (by
     simp only [fW, nC, ax, cond_false, List.take_length, Nat.sub_self, List.replicate_zero, List.append_nil]) (fun k hk => by
     have hb : k < (a0.take k ++ List.replicate (a0.length - k) (((0 : Int), (0 : Int), (0 : Int), [], ()) : bw)).length := by simp; omega
     simp only [fW, nC, aw hk, aq, cond_true, az, List.getElem?_eq_getElem hk, List.getElem?_eq_getElem hb, Option.bind_some, fJ hb, aA (show k < 4611686018427387904 by omega), Ch ((a0[k]).1) ((a0[k]).2.1) ((a0[k]).2.2.1) ((a0[k]).2.2.2.1) (Nat.le_trans (pN aF a0 _ (List.getElem_mem hk)) (by omega))]; rw [← uZ a0 _ hk])
   simpa using this
 unfold nD; simp only [decide_true, aq, cond_true, az, bh (show a0.length * 48 ≤ lim by unfold lim; omega), hl, iD]
theorem Lk (aU : Int) (aM : Int) (aN : aG) (aH : Int) (bc : Int) (aS : Int) (bS : ByteArray) (bM : aG) (h : au (aU, aM, aN, aH, bc, aS, bS, bM, ()) ≤ 4194304) : qj aU aM aN aH bc aS bS bM = some (aU, aM, aN, aH, bc, aS, bS, bM, ()) := by
 have h : (List.length aN + wl cX aN) + ByteArray.size bS + (List.length bM + wl cX bM) ≤ 4194304 := h; unfold qj; simp only [Option.bind_some, Dh aM aN (by show (List.length aN + wl cX aN) ≤ 4194304; omega), Hl aH bc aS bS (by show ByteArray.size bS ≤ 4194304; omega), zG bM (by show (List.length bM + wl cX bM) ≤ 4194304; omega)]
theorem I1 (a0 : ah) (h : List.length a0 + wl au a0 ≤ 4194304) : pn a0 = some (a0, ()) := by
 have hl : aD gS (a0, List.replicate a0.length ((0 : Int), (0 : Int), [], (0 : Int), (0 : Int), (0 : Int), ByteArray.empty, [], ()), (0 : Int), ()) = some (.inl (a0, ())) := by
   have := bK (round := gS) (e := .inl (a0, ())) a0.length (fun k => (a0, a0.take k ++ List.replicate (a0.length - k) ((0 : Int), (0 : Int), [], (0 : Int), (0 : Int), (0 : Int), ByteArray.empty, [], ()), ((k : Nat) : Int), ())) (by
     simp only [gS, oQ, ax, cond_false, List.take_length, Nat.sub_self, List.replicate_zero, List.append_nil]) (fun k hk => by
     have hb : k < (a0.take k ++ List.replicate (a0.length - k) (((0 : Int), (0 : Int), [], (0 : Int), (0 : Int), (0 : Int), ByteArray.empty, [], ()) : bF)).length := by simp; omega
     simp only [gS, oQ, aw hk, aq, cond_true, az, List.getElem?_eq_getElem hk, List.getElem?_eq_getElem hb, Option.bind_some, fJ hb, aA (show k < 4611686018427387904 by omega), Lk ((a0[k]).1) ((a0[k]).2.1) ((a0[k]).2.2.1) ((a0[k]).2.2.2.1) ((a0[k]).2.2.2.2.1) ((a0[k]).2.2.2.2.2.1) ((a0[k]).2.2.2.2.2.2.1) ((a0[k]).2.2.2.2.2.2.2.1) (Nat.le_trans (pN au a0 _ (List.getElem_mem hk)) (by omega))]; rw [← uZ a0 _ hk])
   simpa using this
 unfold pn; simp only [decide_true, aq, cond_true, az, bh (show a0.length * 104 ≤ lim by unfold lim; omega), hl, iD]
theorem I2 (aU : Int) (aM : Bool) (aN : Int) (aH : Int) (bc : aG) (aS : ak) (bS : aG) (bM : hZ) (fy : Int) (fA : Int) (cB : Int) (cC : Int) (cD : Int) (cE : Int) (cF : Int) (bC : Int) (ic : Int) (cW : aG) (kJ : Int) (kK : Int) (ie : Int) (db : aG) (de : af) (dq : ah) (h : bu (aU, aM, aN, aH, bc, aS, bS, bM, fy, fA, cB, cC, cD, cE, cF, bC, ic, cW, kJ, kK, ie, db, de, dq, ()) ≤ 4194304) : gL aU aM aN aH bc aS bS bM fy fA cB cC cD cE cF bC ic cW kJ kK ie db de dq = some (aU, aM, aN, aH, bc, aS, bS, bM, fy, fA, cB, cC, cD, cE, cF, bC, ic, cW, kJ, kK, ie, db, de, dq, ()) := by
 have h : (List.length bc + wl cX bc) + (List.length aS + wl bn aS) + (List.length bS + wl cX bS) + (List.length bM + wl sm bM) + (List.length cW + wl cX cW) + (List.length db + wl cX db) + (List.length de + wl aF de) + (List.length dq + wl au dq) ≤ 4194304 := h; unfold gL; simp only [Option.bind_some, MW aN aH bc aS bS bM fy fA cB cC cD cE cF bC ic cW (by show (List.length bc + wl cX bc) + (List.length aS + wl bn aS) + (List.length bS + wl cX bS) + (List.length bM + wl sm bM) + (List.length cW + wl cX cW) ≤ 4194304; omega), Dh ie db (by show (List.length db + wl cX db) ≤ 4194304; omega), Gn de (by show (List.length de + wl aF de) ≤ 4194304; omega), I1 dq (by show (List.length dq + wl au dq) ≤ 4194304; omega)]
theorem zH (a0 : aG) (h : List.length a0 + wl cX a0 ≤ 4194304) : kX a0 a0 = some (true, ()) := by
 have hl : aD jo (a0, a0, (0 : Int), ()) = some (.inl ()) := by
   have := bK (round := jo) (e := .inl ()) a0.length (fun k => (a0, a0, ((k : Nat) : Int), ())) (by
     simp only [jo, q7, ax, cond_false]) (fun k hk => by
     simp only [jo, q7, aw hk, aq, cond_true, cond_false, az, List.getElem?_eq_getElem hk, Option.bind_some, decide_true, beq_self_eq_true, dh, Bool.not_true, aA (show k < 4611686018427387904 by omega)])
   simpa using this
 unfold kX; simp only [decide_true, Bool.not_true, cond_false, hl, iD]
theorem Di (aU : Int) (aM : aG) (h : Gh (aU, aM, ()) ≤ 4194304) : mV aU aM aU aM = some (true, ()) := by
 have h : (List.length aM + wl cX aM) ≤ 4194304 := h; unfold mV; simp only [decide_true, beq_self_eq_true, Bool.not_true, Bool.not_false, cond_true, cond_false, dh, Option.bind_some, zH aM (by show (List.length aM + wl cX aM) ≤ 4194304; omega)]
theorem Hm (aU : Int) (aM : Int) (aN : Int) (aH : ByteArray) (h : bn (aU, aM, aN, aH, ()) ≤ 4194304) : pK aU aM aN aH aU aM aN aH = some (true, ()) := by
 have h : ByteArray.size aH ≤ 4194304 := h; unfold pK; simp only [decide_true, beq_self_eq_true, Bool.not_true, Bool.not_false, cond_true, cond_false, dh, Option.bind_some]
theorem EX (a0 : ak) (h : List.length a0 + wl bn a0 ≤ 4194304) : nN a0 a0 = some (true, ()) := by
 have hl : aD iz (a0, a0, (0 : Int), ()) = some (.inl ()) := by
   have := bK (round := iz) (e := .inl ()) a0.length (fun k => (a0, a0, ((k : Nat) : Int), ())) (by
     simp only [iz, p6, ax, cond_false]) (fun k hk => by
     simp only [iz, p6, aw hk, aq, cond_true, cond_false, az, List.getElem?_eq_getElem hk, Option.bind_some, decide_true, beq_self_eq_true, dh, Bool.not_true, aA (show k < 4611686018427387904 by omega), Hm ((a0[k]).1) ((a0[k]).2.1) ((a0[k]).2.2.1) ((a0[k]).2.2.2.1) (Nat.le_trans (pN bn a0 _ (List.getElem_mem hk)) (by omega))])
   simpa using this
 unfold nN; simp only [decide_true, Bool.not_true, cond_false, hl, iD]
theorem Gp (a0 : hZ) (h : List.length a0 + wl sm a0 ≤ 4194304) : nP a0 a0 = some (true, ()) := by
 have hl : aD fZ (a0, a0, (0 : Int), ()) = some (.inl ()) := by
   have := bK (round := fZ) (e := .inl ()) a0.length (fun k => (a0, a0, ((k : Nat) : Int), ())) (by
     simp only [fZ, nO, ax, cond_false]) (fun k hk => by
     simp only [fZ, nO, aw hk, aq, cond_true, cond_false, az, List.getElem?_eq_getElem hk, Option.bind_some, decide_true, beq_self_eq_true, dh, Bool.not_true, aA (show k < 4611686018427387904 by omega)])
   simpa using this
 unfold nP; simp only [decide_true, Bool.not_true, cond_false, hl, iD]
theorem Ll (aU : Int) (aM : Int) (aN : Int) (aH : Int) (bc : Int) (aS : aG) (h : wC (aU, aM, aN, aH, bc, aS, ()) ≤ 4194304) : qp aU aM aN aH bc aS aU aM aN aH bc aS = some (true, ()) := by
 have h : (List.length aS + wl cX aS) ≤ 4194304 := h; unfold qp; simp only [decide_true, beq_self_eq_true, Bool.not_true, Bool.not_false, cond_true, cond_false, dh, Option.bind_some, zH aS (by show (List.length aS + wl cX aS) ≤ 4194304; omega)]
theorem MX (aU : Int) (aM : Int) (aN : aG) (aH : ak) (bc : aG) (aS : hZ) (bS : Int) (bM : Int) (fy : Int) (fA : Int) (cB : Int) (cC : Int) (cD : Int) (cE : Int) (cF : Int) (bC : aG) (h : eZ (aU, aM, aN, aH, bc, aS, bS, bM, fy, fA, cB, cC, cD, cE, cF, bC, ()) ≤ 4194304) : rJ aU aM aN aH bc aS bS bM fy fA cB cC cD cE cF bC aU aM aN aH bc aS bS bM fy fA cB cC cD cE cF bC = some (true, ()) := by
 have h : (List.length aN + wl cX aN) + (List.length aH + wl bn aH) + (List.length bc + wl cX bc) + (List.length aS + wl sm aS) + (List.length bC + wl cX bC) ≤ 4194304 := h; unfold rJ; simp only [decide_true, beq_self_eq_true, Bool.not_true, Bool.not_false, cond_true, cond_false, dh, Option.bind_some, Di aM aN (by show (List.length aN + wl cX aN) ≤ 4194304; omega), EX aH (by show (List.length aH + wl bn aH) ≤ 4194304; omega), zH bc (by show (List.length bc + wl cX bc) ≤ 4194304; omega), Gp aS (by show (List.length aS + wl sm aS) ≤ 4194304; omega), Ll cB cC cD cE cF bC (by show (List.length bC + wl cX bC) ≤ 4194304; omega)]
theorem Ci (aU : Int) (aM : Int) (aN : Int) (aH : ak) (h : aF (aU, aM, aN, aH, ()) ≤ 4194304) : j8 aU aM aN aH aU aM aN aH = some (true, ()) := by
 have h : (List.length aH + wl bn aH) ≤ 4194304 := h; unfold j8; simp only [decide_true, beq_self_eq_true, Bool.not_true, Bool.not_false, cond_true, cond_false, dh, Option.bind_some, EX aH (by show (List.length aH + wl bn aH) ≤ 4194304; omega)]
theorem Gq (a0 : af) (h : List.length a0 + wl aF a0 ≤ 4194304) : nR a0 a0 = some (true, ()) := by
 have hl : aD ga (a0, a0, (0 : Int), ()) = some (.inl ()) := by
   have := bK (round := ga) (e := .inl ()) a0.length (fun k => (a0, a0, ((k : Nat) : Int), ())) (by
     simp only [ga, nQ, ax, cond_false]) (fun k hk => by
     simp only [ga, nQ, aw hk, aq, cond_true, cond_false, az, List.getElem?_eq_getElem hk, Option.bind_some, decide_true, beq_self_eq_true, dh, Bool.not_true, aA (show k < 4611686018427387904 by omega), Ci ((a0[k]).1) ((a0[k]).2.1) ((a0[k]).2.2.1) ((a0[k]).2.2.2.1) (Nat.le_trans (pN aF a0 _ (List.getElem_mem hk)) (by omega))])
   simpa using this
 unfold nR; simp only [decide_true, Bool.not_true, cond_false, hl, iD]
theorem Lm (aU : Int) (aM : Int) (aN : aG) (aH : Int) (bc : Int) (aS : Int) (bS : ByteArray) (bM : aG) (h : au (aU, aM, aN, aH, bc, aS, bS, bM, ()) ≤ 4194304) : qt aU aM aN aH bc aS bS bM aU aM aN aH bc aS bS bM = some (true, ()) := by
 have h : (List.length aN + wl cX aN) + ByteArray.size bS + (List.length bM + wl cX bM) ≤ 4194304 := h; unfold qt; simp only [decide_true, beq_self_eq_true, Bool.not_true, Bool.not_false, cond_true, cond_false, dh, Option.bind_some, Di aM aN (by show (List.length aN + wl cX aN) ≤ 4194304; omega), Hm aH bc aS bS (by show ByteArray.size bS ≤ 4194304; omega), zH bM (by show (List.length bM + wl cX bM) ≤ 4194304; omega)]
theorem I3 (a0 : ah) (h : List.length a0 + wl au a0 ≤ 4194304) : pw a0 a0 = some (true, ()) := by
 have hl : aD gZ (a0, a0, (0 : Int), ()) = some (.inl ()) := by
   have := bK (round := gZ) (e := .inl ()) a0.length (fun k => (a0, a0, ((k : Nat) : Int), ())) (by
     simp only [gZ, oW, ax, cond_false]) (fun k hk => by
     simp only [gZ, oW, aw hk, aq, cond_true, cond_false, az, List.getElem?_eq_getElem hk, Option.bind_some, decide_true, beq_self_eq_true, dh, Bool.not_true, aA (show k < 4611686018427387904 by omega), Lm ((a0[k]).1) ((a0[k]).2.1) ((a0[k]).2.2.1) ((a0[k]).2.2.2.1) ((a0[k]).2.2.2.2.1) ((a0[k]).2.2.2.2.2.1) ((a0[k]).2.2.2.2.2.2.1) ((a0[k]).2.2.2.2.2.2.2.1) (Nat.le_trans (pN au a0 _ (List.getElem_mem hk)) (by omega))])
   simpa using this
 unfold pw; simp only [decide_true, Bool.not_true, cond_false, hl, iD]
theorem Cj (aU : Int) (aM : Bool) (aN : Int) (aH : Int) (bc : aG) (aS : ak) (bS : aG) (bM : hZ) (fy : Int) (fA : Int) (cB : Int) (cC : Int) (cD : Int) (cE : Int) (cF : Int) (bC : Int) (ic : Int) (cW : aG) (kJ : Int) (kK : Int) (ie : Int) (db : aG) (de : af) (dq : ah) (h : bu (aU, aM, aN, aH, bc, aS, bS, bM, fy, fA, cB, cC, cD, cE, cF, bC, ic, cW, kJ, kK, ie, db, de, dq, ()) ≤ 4194304) : eC aU aM aN aH bc aS bS bM fy fA cB cC cD cE cF bC ic cW kJ kK ie db de dq aU aM aN aH bc aS bS bM fy fA cB cC cD cE cF bC ic cW kJ kK ie db de dq = some (true, ()) := by
 have h : (List.length bc + wl cX bc) + (List.length aS + wl bn aS) + (List.length bS + wl cX bS) + (List.length bM + wl sm bM) + (List.length cW + wl cX cW) + (List.length db + wl cX db) + (List.length de + wl aF de) + (List.length dq + wl au dq) ≤ 4194304 := h; unfold eC; simp only [decide_true, beq_self_eq_true, Bool.not_true, Bool.not_false, cond_true, cond_false, dh, Option.bind_some, MX aN aH bc aS bS bM fy fA cB cC cD cE cF bC ic cW (by show (List.length bc + wl cX bc) + (List.length aS + wl bn aS) + (List.length bS + wl cX bS) + (List.length bM + wl sm bM) + (List.length cW + wl cX cW) ≤ 4194304; omega), Di ie db (by show (List.length db + wl cX db) ≤ 4194304; omega), Gq de (by show (List.length de + wl aF de) ≤ 4194304; omega), I3 dq (by show (List.length dq + wl au dq) ≤ 4194304; omega)]
end Go.TM
set_option linter.unusedSimpArgs false
set_option linter.unusedVariables false
namespace Go.TM
open Go
def Ln (y : Int × Unit) : UInt8 := UInt8.ofNat y.1.toNat
theorem Dj (ys : List (Int × Unit)) : (bytesOf ys).data.toList = ys.map Ln := by
 have key : ∀ (ys : List (Int × Unit)) (s : ByteArray), (List.foldl (fun (r : ByteArray) (y : Int × Unit) => r.push (UInt8.ofNat y.1.toNat)) s ys).data.toList = s.data.toList ++ ys.map Ln := by
   intro ys
   induction ys with
   | nil => intro s; simp
   | cons y ys ih =>
     intro s; rw [List.foldl_cons, ih]; simp [Ln]
 have := key ys ByteArray.empty; exact this
theorem Dk (ys : List (Int × Unit)) : (bytesOf ys).size = ys.length := by
 have h1 : (bytesOf ys).data.toList.length = (bytesOf ys).size := Array.length_toList; rw [← h1, Dj, List.length_map]
def MY {B : Type} : Sum (ByteArray × Unit) B → Prop
 | .inl y => y.1.size ≤ 20
 | .inr _ => False
theorem vf (n : Nat) (h : n < 1099511627776) : ∃ b : ByteArray, dM ((n : Nat) : Int) = some (b, ()) := by
 unfold dM
 by_cases h0 : ((n : Nat) : Int) ≤ 0
 · rw [ai h0]; exact ⟨_, rfl⟩
 rw [aj h0]; obtain ⟨e, he, hq⟩ := eH (round := hC) (x := (((n : Nat) : Int), (ByteArray.mk #[]), ())) 20 (fun k x => ∃ (m : Nat) (out : ByteArray), x = (((m : Nat) : Int), out, ()) ∧ m ≤ n ∧ m < 10 ^ (20 - k) ∧ out.size = k)
   MY (by
   rintro x ⟨m, out, rfl, hn, hm, hl⟩
   have hm : m < 1 := hm; refine ⟨.inl (out, ()), ?_, by show out.size ≤ 20; omega⟩; simp only [hC, lz, aj (show ¬ (0 : Int) < ((m : Nat) : Int) by omega), cond_false]) (by
   rintro k x hk ⟨m, out, rfl, hn, hm, hl⟩
   by_cases h1 : 0 < m
   · have hd : Int.tdiv ((m : Nat) : Int) (10 : Int) = ((m / 10 : Nat) : Int) := rfl; have hbz : ByteArray.size (bytesOf [(IntKind.u8.wrap (IntKind.i64.wrap ((48 : Int) + (Int.tmod ((m : Nat) : Int) (10 : Int)))), ())]) = 1 := Dk _; refine .inr ⟨(((m / 10 : Nat) : Int), bytesOf [(IntKind.u8.wrap (IntKind.i64.wrap ((48 : Int) + (Int.tmod ((m : Nat) : Int) (10 : Int)))), ())] ++ out, ()), ?_, m / 10, bytesOf [(IntKind.u8.wrap (IntKind.i64.wrap ((48 : Int) + (Int.tmod ((m : Nat) : Int) (10 : Int)))), ())] ++ out, rfl, by omega, ?_, ?_⟩
     · simp only [hC, lz, ai (show (0 : Int) < ((m : Nat) : Int) by omega), cond_true, hd, ej (show -9223372036854775808 ≤ ((m / 10 : Nat) : Int) by omega) (show ((m / 10 : Nat) : Int) < 9223372036854775808 by omega), hbz,
         bh (show 1 + out.size ≤ lim by unfold lim; omega)]
     · have e1 : 20 - k = (20 - (k + 1)) + 1 := by omega
       rw [e1, Nat.pow_succ] at hm; omega
     · rw [ByteArray.size_append, hbz]; omega
   · refine .inl ⟨.inl (out, ()), ?_, by show out.size ≤ 20; omega⟩; simp only [hC, lz, aj (show ¬ (0 : Int) < ((m : Nat) : Int) by omega), cond_false]) ⟨n, _, rfl, Nat.le_refl _, by show n < 100000000000000000000; omega, rfl⟩
 rw [he]
 cases e with
 | inr e => exact hq.elim
 | inl e =>
   have hq : e.1.size ≤ 20 := hq; simp only [cond_false, iD, bh (show 1 + ByteArray.size e.1 ≤ lim by unfold lim; omega), cond_true]; exact ⟨_, rfl⟩
noncomputable def tK (n : Nat) : ByteArray := if h : n < 1099511627776 then Classical.choose (vf n h) else ByteArray.empty
theorem sR {n : Nat} (h : n < 1099511627776) : dM ((n : Nat) : Int) = some (tK n, ()) := by
 unfold tK; rw [dif_pos h]; exact Classical.choose_spec (vf n h)
end Go.TM
set_option linter.unusedSimpArgs false
set_option linter.unusedVariables false
namespace Go.TM
open Go
theorem Lo {p : Prop} {i : Decidable p} (h : p) : @decide p i = true := decide_eq_true h
theorem I4 {p : Prop} {i : Decidable p} (h : ¬ p) : @decide p i = false := decide_eq_false h
theorem Hn (k : Nat) : decide (((k : Nat) : Int) < (0 : Int)) = false := aj (by omega)
theorem kr {k : Nat} (h : k ≤ 1073741824) : IntKind.i64.wrap (((k : Nat) : Int) + (1 : Int)) = (((k + 1 : Nat)) : Int) := aA (by omega)
theorem EY {k : Nat} (h : k ≤ 1073741824) : dM ((k : Nat) : Int) = some (tK k, ()) := sR (by omega)
theorem AT {α : Type} (f g : α → Nat) (c : Nat) (h : ∀ x, f x ≤ c * (1 + g x)) : (xs : List α) → wl f xs ≤ c * (xs.length + wl g xs)
 | [] => Nat.zero_le _
 | x :: xs => by
   have h1 := h x; have h2 := AT f g c h xs; rw [nr, nr, List.length_cons]; have e : c * (xs.length + 1 + (g x + wl g xs)) = c * (1 + g x) + c * (xs.length + wl g xs) := by rw [← Nat.mul_add]; congr 1; omega
   omega
theorem AU {α : Type} (f : α → Nat) (xs : List α) {k : Nat} (hk : k < xs.length) : wl f (xs.take k) + f xs[k] ≤ wl f xs := by
 have h1 := tv f xs hk; have h2 : wl f xs = wl f (xs.take (k + 1)) + wl f (xs.drop (k + 1)) := by rw [← yc, List.take_append_drop]
 omega
theorem Ck {α B : Type} (M : α → Nat) (HD : α → Nat → α → Prop) (round : List α × Int × Int × Unit → Option (Sum (List α × Int × Int × Unit) (Sum (List α × Int × Unit) B))) (xs : List α) (a : Nat)
   (CZ : ∀ (l : List α) (m : Int), l.length = xs.length → round (l, m, ((xs.length : Nat) : Int), ()) = some (.inr (.inl (l, m, ()))))
   (tZ : ∀ (l : List α) (k : Nat) (hk : k < xs.length) (n : Nat), l.length = xs.length → l[k]? = some xs[k] → n + M xs[k] ≤ a + wl M xs → ∃ y, HD xs[k] n y ∧ round (l, ((n : Nat) : Int), ((k : Nat) : Int), ()) = some (.inl (l.set k y, ((n + M xs[k] : Nat) : Int), ((k + 1 : Nat) : Int), ()))) :
   ∃ l, aD round (xs, ((a : Nat) : Int), (0 : Int), ()) = some (.inl (l, ((a + wl M xs : Nat) : Int), ())) ∧ l.length = xs.length ∧ ∀ j (hj : j < xs.length), ∃ y, l[j]? = some y ∧ HD xs[j] (a + wl M (xs.take j)) y := by
 obtain ⟨e, he, l, rfl, hl, hj⟩ := eH (round := round) (x := (xs, ((a : Nat) : Int), ((0 : Nat) : Int), ())) xs.length
   (fun k x => ∃ l : List α, x = (l, ((a + wl M (xs.take k) : Nat) : Int), ((k : Nat) : Int), ()) ∧ l.length = xs.length ∧ (∀ j (hj : j < xs.length), j < k → ∃ y, l[j]? = some y ∧ HD xs[j] (a + wl M (xs.take j)) y) ∧ ∀ j (hj : j < xs.length), k ≤ j → l[j]? = some xs[j])
   (fun e => ∃ l : List α, e = .inl (l, ((a + wl M xs : Nat) : Int), ()) ∧ l.length = xs.length ∧ ∀ j (hj : j < xs.length), ∃ y, l[j]? = some y ∧ HD xs[j] (a + wl M (xs.take j)) y) (by
   rintro x ⟨l, rfl, hl, hj, _⟩
   rw [List.take_length]; exact ⟨_, CZ l _ hl, l, rfl, hl, fun j WE => hj j WE WE⟩) (by
   rintro k x hk ⟨l, rfl, hl, h1, h2⟩
   have hb := AU M xs hk; obtain ⟨y, hy, hr⟩ := tZ l k hk (a + wl M (xs.take k)) hl (h2 k hk (Nat.le_refl _)) (by omega); refine .inr ⟨_, hr, l.set k y, by rw [Nat.add_assoc, ← tv M xs hk], by simp [hl], fun j hj x7 => ?_, fun j hj x7 => ?_⟩
   · by_cases e : k = j
     · subst e; exact ⟨y, by rw [List.getElem?_set_self (by omega)], hy⟩
     · rw [List.getElem?_set_ne e]; exact h1 j hj (by omega)
   · rw [List.getElem?_set_ne (by omega)]; exact h2 j hj (by omega)) ⟨xs, by rw [List.take_zero]; rfl, rfl, fun j _ h => by omega, fun j hj _ => List.getElem?_eq_getElem hj⟩
 exact ⟨l, he, hl, hj⟩
theorem Cl {α B : Type} (M : α → Nat) (HD : α → Nat → α → Prop) (round : List α × Int × Int × Unit → Option (Sum (List α × Int × Int × Unit) (Sum (Int × Unit) B))) (xs l : List α) (a : Nat) (hl : l.length = xs.length)
   (hy : ∀ j (hj : j < xs.length), ∃ y, l[j]? = some y ∧ HD xs[j] (a + wl M (xs.take j)) y)
   (CZ : ∀ m : Int, round (l, m, ((xs.length : Nat) : Int), ()) = some (.inr (.inl (m, ()))))
   (tZ : ∀ (k : Nat) (hk : k < xs.length) (n : Nat) (y : α), k < l.length → l[k]? = some y → HD xs[k] n y → n + M xs[k] ≤ a + wl M xs → round (l, ((n : Nat) : Int), ((k : Nat) : Int), ()) = some (.inl (l, ((n + M xs[k] : Nat) : Int), ((k + 1 : Nat) : Int), ()))) :
   aD round (l, ((a : Nat) : Int), (0 : Int), ()) = some (.inl (((a + wl M xs : Nat) : Int), ())) := by
 have h := bK (round := round) (e := .inl (((a + wl M xs : Nat) : Int), ())) xs.length (fun k => (l, ((a + wl M (xs.take k) : Nat) : Int), ((k : Nat) : Int), ())) (by
   rw [List.take_length]; exact CZ _) (fun k hk => by
   have hb := AU M xs hk; obtain ⟨y, h1, h2⟩ := hy k hk; have := tZ k hk _ y (by omega) h1 h2 (by omega); rw [this, Nat.add_assoc, ← tv M xs hk])
 have h : aD round (l, ((a + wl M (xs.take 0) : Nat) : Int), (0 : Int), ()) = _ := h
 rwa [List.take_zero] at h
end Go.TM
set_option linter.unusedSimpArgs false
set_option linter.unusedVariables false
namespace Go.TM
open Go
noncomputable def AW (n : Nat) : Int × Unit := (((n + 0 : Nat) : Int), ())
def Gr (n a : Nat) {B : Type} : Sum ((aG) × Int × Unit) B → Prop
 | .inl y => y.2.1 = ((a + 1 * n : Nat) : Int) ∧ y.1.length = n ∧ ∀ j, j < n → y.1[j]? = some (AW (a + 1 * j))
 | .inr _ => False
theorem xC (xs : aG) (a : Nat) (h : List.length xs ≤ 4194304) (ha : a ≤ 1073741824) : ∃ l, gP xs ((a : Nat) : Int) = some (((a + 1 * List.length xs : Nat) : Int), l, ()) ∧ eD l ((a : Nat) : Int) = some (((a + 1 * List.length xs : Nat) : Int), ()) ∧ List.length l = List.length xs := by
 obtain ⟨e, he, hq⟩ := eH (round := jq) (x := (xs, ((a : Nat) : Int), ((0 : Nat) : Int), ())) xs.length (fun k x => ∃ l : aG, x = (l, ((a + 1 * k : Nat) : Int), ((k : Nat) : Int), ()) ∧ l.length = xs.length ∧ ∀ j, j < k → l[j]? = some (AW (a + 1 * j)))
   (Gr xs.length a) (by
   rintro x ⟨l, rfl, hl, hj⟩
   refine ⟨.inl (l, ((a + 1 * xs.length : Nat) : Int), ()), ?_, rfl, hl, hj⟩; simp only [jq, oX, hl, ax, cond_false]) (by
   rintro k x hk ⟨l, rfl, hl, hj⟩
   have AX : k < l.length := by omega
   refine .inr ⟨_, ?_, l.set k (AW (a + 1 * k)), rfl, by simp [hl], fun j WE => ?_⟩
   · have e0 : ((a + 1 * k : Nat) : Int) = ((a + 1 * k + 0 : Nat) : Int) := rfl; have e1 : IntKind.i64.wrap (((a + 1 * k + 0 : Nat) : Int) + (1 : Int)) = ((a + 1 * k + 1 : Nat) : Int) := by rw [ej] <;> omega
     have ez : ((a + 1 * k + 1 : Nat) : Int) = ((a + 1 * (k + 1) : Nat) : Int) := by omega
     rw [e0]; simp only [jq, oX, aw AX, aq, cond_true, az, List.length_set, fJ AX, List.getElem?_eq_getElem AX, List.getElem?_set_self AX, List.set_set, Option.bind_some, e1, ez, aA (show k < 4611686018427387904 by omega)]; rfl
   · rw [List.getElem?_set]
     by_cases x7 : k = j
     · subst x7; rw [if_pos rfl, if_pos AX]
     · rw [if_neg x7]; exact hj j (by omega)) ⟨xs, rfl, rfl, fun j hj => by omega⟩
 cases e with
 | inr e => exact hq.elim
 | inl e =>
   obtain ⟨q1, q2, q3⟩ := hq; obtain ⟨l, m, u⟩ := e; simp only at q1 q2 q3; subst q1; refine ⟨l, ?_, ?_, q2⟩
   · unfold gP; rw [show (0 : Int) = ((0 : Nat) : Int) from rfl, he]; rfl
   · have hl := bK (round := hF) (e := .inl (((a + 1 * xs.length : Nat) : Int), ())) xs.length (fun k => (l, ((a + 1 * k : Nat) : Int), ((k : Nat) : Int), ())) (by
       simp only [hF, oY, q2, ax, cond_false]) (fun k hk => by
       have AX : k < l.length := by omega
       have L9 : l[k]? = some (((a + 1 * k + 0 : Nat) : Int), ()) := q3 k hk; have e0 : ((a + 1 * k : Nat) : Int) = ((a + 1 * k + 0 : Nat) : Int) := rfl; have e1 : IntKind.i64.wrap (((a + 1 * k + 0 : Nat) : Int) + (1 : Int)) = ((a + 1 * k + 1 : Nat) : Int) := by rw [ej] <;> omega
       have ez : ((a + 1 * k + 1 : Nat) : Int) = ((a + 1 * (k + 1) : Nat) : Int) := by omega
       rw [e0]; simp only [hF, oY, aw AX, aq, cond_true, cond_false, az, L9, decide_true, dh, Bool.not_true, Option.bind_some, e1, ez, aA (show k < 4611686018427387904 by omega)])
     unfold eD; have hl : aD hF (l, ((a + 1 * 0 : Nat) : Int), (0 : Int), ()) = _ := hl; rw [Nat.mul_zero, Nat.add_zero] at hl; rw [hl]; rfl
theorem Ho (aU : Int) (aM : aG) (a : Nat) (h1 : List.length aM ≤ 4194304) (ha : a ≤ 536870912) : ∃ l1, mc aU aM ((a : Nat) : Int) = some (((a + 1 * List.length aM : Nat) : Int), l1, ()) ∧ me aU l1 ((a : Nat) : Int) = some (((a + 1 * List.length aM : Nat) : Int), ()) ∧ List.length l1 = List.length aM := by
 obtain ⟨l1, e0, g0, nl1⟩ := xC aM (a) h1 (by omega); refine ⟨l1, ?_, ?_, nl1⟩
 · simp only [mc, e0, Option.bind_some]
 · simp only [me, g0, Option.bind_some, cond_false, aj (show ¬ ((a + 1 * List.length aM : Nat) : Int) < 0 by omega)]
noncomputable def yo (n : Nat) : mD := (((n + 0 : Nat) : Int), ((n + 1 : Nat) : Int), ((n + 2 : Nat) : Int), tK (n + 3), ())
def EZ (n a : Nat) {B : Type} : Sum ((ak) × Int × Unit) B → Prop
 | .inl y => y.2.1 = ((a + 4 * n : Nat) : Int) ∧ y.1.length = n ∧ ∀ j, j < n → y.1[j]? = some (yo (a + 4 * j))
 | .inr _ => False
theorem AY (xs : ak) (a : Nat) (h : List.length xs ≤ 4194304) (ha : a ≤ 1073741824) : ∃ l, jr xs ((a : Nat) : Int) = some (((a + 4 * List.length xs : Nat) : Int), l, ()) ∧ js l ((a : Nat) : Int) = some (((a + 4 * List.length xs : Nat) : Int), ()) ∧ List.length l = List.length xs := by
 obtain ⟨e, he, hq⟩ := eH (round := iK) (x := (xs, ((a : Nat) : Int), ((0 : Nat) : Int), ())) xs.length (fun k x => ∃ l : ak, x = (l, ((a + 4 * k : Nat) : Int), ((k : Nat) : Int), ()) ∧ l.length = xs.length ∧ ∀ j, j < k → l[j]? = some (yo (a + 4 * j)))
   (EZ xs.length a) (by
   rintro x ⟨l, rfl, hl, hj⟩
   refine ⟨.inl (l, ((a + 4 * xs.length : Nat) : Int), ()), ?_, rfl, hl, hj⟩; simp only [iK, nS, hl, ax, cond_false]) (by
   rintro k x hk ⟨l, rfl, hl, hj⟩
   have AX : k < l.length := by omega
   refine .inr ⟨_, ?_, l.set k (yo (a + 4 * k)), rfl, by simp [hl], fun j WE => ?_⟩
   · have e0 : ((a + 4 * k : Nat) : Int) = ((a + 4 * k + 0 : Nat) : Int) := rfl; have e1 : IntKind.i64.wrap (((a + 4 * k + 0 : Nat) : Int) + (1 : Int)) = ((a + 4 * k + 1 : Nat) : Int) := by rw [ej] <;> omega
     have e2 : IntKind.i64.wrap (((a + 4 * k + 1 : Nat) : Int) + (1 : Int)) = ((a + 4 * k + 2 : Nat) : Int) := by rw [ej] <;> omega
     have e3 : IntKind.i64.wrap (((a + 4 * k + 2 : Nat) : Int) + (1 : Int)) = ((a + 4 * k + 3 : Nat) : Int) := by rw [ej] <;> omega
     have e4 : IntKind.i64.wrap (((a + 4 * k + 3 : Nat) : Int) + (1 : Int)) = ((a + 4 * k + 4 : Nat) : Int) := by rw [ej] <;> omega
     have ez : ((a + 4 * k + 4 : Nat) : Int) = ((a + 4 * (k + 1) : Nat) : Int) := by omega
     rw [e0]; simp only [iK, nS, aw AX, aq, cond_true, az, List.length_set, fJ AX, List.getElem?_eq_getElem AX, List.getElem?_set_self AX, List.set_set, Option.bind_some, sR (show a + 4 * k + 3 < 1099511627776 by omega), e1, e2, e3, e4, ez, aA (show k < 4611686018427387904 by omega)]; rfl
   · rw [List.getElem?_set]
     by_cases x7 : k = j
     · subst x7; rw [if_pos rfl, if_pos AX]
     · rw [if_neg x7]; exact hj j (by omega)) ⟨xs, rfl, rfl, fun j hj => by omega⟩
 cases e with
 | inr e => exact hq.elim
 | inl e =>
   obtain ⟨q1, q2, q3⟩ := hq; obtain ⟨l, m, u⟩ := e; simp only at q1 q2 q3; subst q1; refine ⟨l, ?_, ?_, q2⟩
   · unfold jr; rw [show (0 : Int) = ((0 : Nat) : Int) from rfl, he]; rfl
   · have hl := bK (round := gd) (e := .inl (((a + 4 * xs.length : Nat) : Int), ())) xs.length (fun k => (l, ((a + 4 * k : Nat) : Int), ((k : Nat) : Int), ())) (by
       simp only [gd, nU, q2, ax, cond_false]) (fun k hk => by
       have AX : k < l.length := by omega
       have L9 : l[k]? = some (((a + 4 * k + 0 : Nat) : Int), ((a + 4 * k + 1 : Nat) : Int), ((a + 4 * k + 2 : Nat) : Int), tK (a + 4 * k + 3), ()) := q3 k hk; have e0 : ((a + 4 * k : Nat) : Int) = ((a + 4 * k + 0 : Nat) : Int) := rfl; have e1 : IntKind.i64.wrap (((a + 4 * k + 0 : Nat) : Int) + (1 : Int)) = ((a + 4 * k + 1 : Nat) : Int) := by rw [ej] <;> omega
       have e2 : IntKind.i64.wrap (((a + 4 * k + 1 : Nat) : Int) + (1 : Int)) = ((a + 4 * k + 2 : Nat) : Int) := by rw [ej] <;> omega
       have e3 : IntKind.i64.wrap (((a + 4 * k + 2 : Nat) : Int) + (1 : Int)) = ((a + 4 * k + 3 : Nat) : Int) := by rw [ej] <;> omega
       have e4 : IntKind.i64.wrap (((a + 4 * k + 3 : Nat) : Int) + (1 : Int)) = ((a + 4 * k + 4 : Nat) : Int) := by rw [ej] <;> omega
       have ez : ((a + 4 * k + 4 : Nat) : Int) = ((a + 4 * (k + 1) : Nat) : Int) := by omega
       rw [e0]; simp only [gd, nU, aw AX, aq, cond_true, cond_false, az, L9, decide_true, dh, Bool.not_true, Option.bind_some, sR (show a + 4 * k + 3 < 1099511627776 by omega), e1, e2, e3, e4, ez, aA (show k < 4611686018427387904 by omega)])
     unfold js; have hl : aD gd (l, ((a + 4 * 0 : Nat) : Int), (0 : Int), ()) = _ := hl; rw [Nat.mul_zero, Nat.add_zero] at hl; rw [hl]; rfl
noncomputable def vg (n : Nat) : ByteArray × Unit := (tK (n + 0), ())
def BB (n a : Nat) {B : Type} : Sum ((hZ) × Int × Unit) B → Prop
 | .inl y => y.2.1 = ((a + 1 * n : Nat) : Int) ∧ y.1.length = n ∧ ∀ j, j < n → y.1[j]? = some (vg (a + 1 * j))
 | .inr _ => False
theorem Gs (xs : hZ) (a : Nat) (h : List.length xs ≤ 4194304) (ha : a ≤ 1073741824) : ∃ l, lA xs ((a : Nat) : Int) = some (((a + 1 * List.length xs : Nat) : Int), l, ()) ∧ lC l ((a : Nat) : Int) = some (((a + 1 * List.length xs : Nat) : Int), ()) ∧ List.length l = List.length xs := by
 obtain ⟨e, he, hq⟩ := eH (round := gw) (x := (xs, ((a : Nat) : Int), ((0 : Nat) : Int), ())) xs.length (fun k x => ∃ l : hZ, x = (l, ((a + 1 * k : Nat) : Int), ((k : Nat) : Int), ()) ∧ l.length = xs.length ∧ ∀ j, j < k → l[j]? = some (vg (a + 1 * j)))
   (BB xs.length a) (by
   rintro x ⟨l, rfl, hl, hj⟩
   refine ⟨.inl (l, ((a + 1 * xs.length : Nat) : Int), ()), ?_, rfl, hl, hj⟩; simp only [gw, lN, hl, ax, cond_false]) (by
   rintro k x hk ⟨l, rfl, hl, hj⟩
   have AX : k < l.length := by omega
   refine .inr ⟨_, ?_, l.set k (vg (a + 1 * k)), rfl, by simp [hl], fun j WE => ?_⟩
   · have e0 : ((a + 1 * k : Nat) : Int) = ((a + 1 * k + 0 : Nat) : Int) := rfl; have e1 : IntKind.i64.wrap (((a + 1 * k + 0 : Nat) : Int) + (1 : Int)) = ((a + 1 * k + 1 : Nat) : Int) := by rw [ej] <;> omega
     have ez : ((a + 1 * k + 1 : Nat) : Int) = ((a + 1 * (k + 1) : Nat) : Int) := by omega
     rw [e0]; simp only [gw, lN, aw AX, aq, cond_true, az, List.length_set, fJ AX, List.getElem?_eq_getElem AX, List.getElem?_set_self AX, List.set_set, Option.bind_some, sR (show a + 1 * k + 0 < 1099511627776 by omega), e1, ez, aA (show k < 4611686018427387904 by omega)]; rfl
   · rw [List.getElem?_set]
     by_cases x7 : k = j
     · subst x7; rw [if_pos rfl, if_pos AX]
     · rw [if_neg x7]; exact hj j (by omega)) ⟨xs, rfl, rfl, fun j hj => by omega⟩
 cases e with
 | inr e => exact hq.elim
 | inl e =>
   obtain ⟨q1, q2, q3⟩ := hq; obtain ⟨l, m, u⟩ := e; simp only at q1 q2 q3; subst q1; refine ⟨l, ?_, ?_, q2⟩
   · unfold lA; rw [show (0 : Int) = ((0 : Nat) : Int) from rfl, he]; rfl
   · have hl := bK (round := eS) (e := .inl (((a + 1 * xs.length : Nat) : Int), ())) xs.length (fun k => (l, ((a + 1 * k : Nat) : Int), ((k : Nat) : Int), ())) (by
       simp only [eS, lP, q2, ax, cond_false]) (fun k hk => by
       have AX : k < l.length := by omega
       have L9 : l[k]? = some (tK (a + 1 * k + 0), ()) := q3 k hk; have e0 : ((a + 1 * k : Nat) : Int) = ((a + 1 * k + 0 : Nat) : Int) := rfl; have e1 : IntKind.i64.wrap (((a + 1 * k + 0 : Nat) : Int) + (1 : Int)) = ((a + 1 * k + 1 : Nat) : Int) := by rw [ej] <;> omega
       have ez : ((a + 1 * k + 1 : Nat) : Int) = ((a + 1 * (k + 1) : Nat) : Int) := by omega
       rw [e0]; simp only [eS, lP, aw AX, aq, cond_true, cond_false, az, L9, decide_true, dh, Bool.not_true, Option.bind_some, sR (show a + 1 * k + 0 < 1099511627776 by omega), e1, ez, aA (show k < 4611686018427387904 by omega)])
     unfold lC; have hl : aD eS (l, ((a + 1 * 0 : Nat) : Int), (0 : Int), ()) = _ := hl; rw [Nat.mul_zero, Nat.add_zero] at hl; rw [hl]; rfl
theorem Lp (aU : Int) (aM : Int) (aN : Int) (aH : Int) (bc : Int) (aS : aG) (a : Nat) (h5 : List.length aS ≤ 4194304) (ha : a ≤ 536870912) : ∃ l5, nT aU aM aN aH bc aS ((a : Nat) : Int) = some (((a + 1 * List.length aS : Nat) : Int), l5, ()) ∧ nV aU aM aN aH bc l5 ((a : Nat) : Int) = some (((a + 1 * List.length aS : Nat) : Int), ()) ∧ List.length l5 = List.length aS := by
 obtain ⟨l5, e0, g0, WG⟩ := xC aS (a) h5 (by omega); refine ⟨l5, ?_, ?_, WG⟩
 · simp only [nT, e0, Option.bind_some]
 · simp only [nV, g0, Option.bind_some, cond_false, aj (show ¬ ((a + 1 * List.length aS : Nat) : Int) < 0 by omega)]
theorem MZ (aU : Int) (aM : Int) (aN : aG) (aH : ak) (bc : aG) (aS : hZ) (bS : Int) (bM : Int) (fy : Int) (fA : Int) (cB : Int) (cC : Int) (cD : Int) (cE : Int) (cF : Int) (bC : aG) (a : Nat) (h2 : List.length aN ≤ 4194304) (h3 : List.length aH ≤ 4194304) (h4 : List.length bc ≤ 4194304) (h5 : List.length aS ≤ 4194304) (h15 : List.length bC ≤ 4194304) (ha : a ≤ 268435456) : ∃ l2 l3 l4 l5 WH, px aU aM aN aH bc aS bS bM fy fA cB cC cD cE cF bC ((a : Nat) : Int) = some (((a + 1 * List.length aN + 4 * List.length aH + 1 * List.length bc + 1 * List.length aS + 1 * List.length bC : Nat) : Int), l2, l3, l4, l5, WH, ()) ∧ py aU aM l2 l3 l4 l5 bS bM fy fA cB cC cD cE cF WH ((a : Nat) : Int) = some (((a + 1 * List.length aN + 4 * List.length aH + 1 * List.length bc + 1 * List.length aS + 1 * List.length bC : Nat) : Int), ()) ∧ List.length l2 = List.length aN ∧ List.length l3 = List.length aH ∧ List.length l4 = List.length bc ∧ List.length l5 = List.length aS ∧ List.length WH = List.length bC := by
 obtain ⟨l2, e0, g0, nl2⟩ := Ho aM aN (a) h2 (by omega); obtain ⟨l3, e1, g1, nl3⟩ := AY aH (a + 1 * List.length aN) h3 (by omega); obtain ⟨l4, e2, g2, nl4⟩ := xC bc (a + 1 * List.length aN + 4 * List.length aH) h4 (by omega); obtain ⟨l5, e3, g3, WG⟩ := Gs aS (a + 1 * List.length aN + 4 * List.length aH + 1 * List.length bc) h5 (by omega); obtain ⟨WH, e4, g4, ab0⟩ := Lp cB cC cD cE cF bC (a + 1 * List.length aN + 4 * List.length aH + 1 * List.length bc + 1 * List.length aS) h15 (by omega); refine ⟨l2, l3, l4, l5, WH, ?_, ?_, nl2, nl3, nl4, WG, ab0⟩
 · simp only [px, e0, e1, e2, e3, e4, Option.bind_some]
 · simp only [py, g0, g1, g2, g3, g4, Option.bind_some, cond_false, aj (show ¬ ((a + 1 * List.length aN : Nat) : Int) < 0 by omega), aj (show ¬ ((a + 1 * List.length aN + 4 * List.length aH : Nat) : Int) < 0 by omega), aj (show ¬ ((a + 1 * List.length aN + 4 * List.length aH + 1 * List.length bc : Nat) : Int) < 0 by omega), aj (show ¬ ((a + 1 * List.length aN + 4 * List.length aH + 1 * List.length bc + 1 * List.length aS : Nat) : Int) < 0 by omega), aj (show ¬ ((a + 1 * List.length aN + 4 * List.length aH + 1 * List.length bc + 1 * List.length aS + 1 * List.length bC : Nat) : Int) < 0 by omega)]
def aW (x : bw) : Nat := 1 + 1 + 1 + 4 * List.length x.2.2.2.1
theorem Dl (x : bw) : aW x ≤ 4 * (1 + aF x) := by
 unfold aW aF; omega
theorem BC (xs : List (bw)) : wl aW xs ≤ 4 * (List.length xs + wl aF xs) := AT _ _ 4 Dl xs
def tL (x : bw) (n : Nat) (y : bw) : Prop := y.1 = ((n : Nat) : Int) ∧ y.2.1 = ((n + 1 : Nat) : Int) ∧ y.2.2.1 = ((n + 1 + 1 : Nat) : Int) ∧ js y.2.2.2.1 ((n + 1 + 1 + 1 : Nat) : Int) = some (((n + 1 + 1 + 1 + 4 * List.length x.2.2.2.1 : Nat) : Int), ())
theorem Gt (l : List (bw)) (k : Nat) (z : bw) (n : Nat) (hk : k < l.length) (Q8 : k < 4611686018427387904) (hz : l[k]? = some z) (hw : aF z ≤ 4194304) (hn : n + aW z ≤ 553648128) : ∃ y, tL z n y ∧ eR (l, ((n : Nat) : Int), ((k : Nat) : Int), ()) = some (.inl (l.set k y, ((n + aW z : Nat) : Int), ((k + 1 : Nat) : Int), ())) := by
 have hm : n + 1 + 1 + 1 + 4 * List.length z.2.2.2.1 = n + aW z := by unfold aW; omega
 have b0 : n ≤ 1073741824 := by omega
 have b1 : n + 1 ≤ 1073741824 := by omega
 have b2 : n + 1 + 1 ≤ 1073741824 := by omega
 have b3 : n + 1 + 1 + 1 ≤ 1073741824 := by omega
 have hw0 : aF z = (List.length z.2.2.2.1 + wl bn z.2.2.2.1) := rfl; obtain ⟨l3, e3, g3, _⟩ := AY z.2.2.2.1 (n + 1 + 1 + 1) (by omega) (by omega); refine ⟨(((n : Nat) : Int), ((n + 1 : Nat) : Int), ((n + 1 + 1 : Nat) : Int), l3, ()), ⟨rfl, rfl, rfl, g3⟩, ?_⟩; rw [← hm]; simp only [eR, lO, aw hk, aq, cond_true, az, List.length_set, fJ hk, hz, List.getElem?_set_self hk, List.set_set, Option.bind_some, e3, kr b0, kr b1, kr b2, aA Q8]
theorem Gu (l : List (bw)) (k : Nat) (z y : bw) (n : Nat) (hk : k < l.length) (Q8 : k < 4611686018427387904) (hy : l[k]? = some y) (hd : tL z n y) (hn : n + aW z ≤ 553648128) : eT (l, ((n : Nat) : Int), ((k : Nat) : Int), ()) = some (.inl (l, ((n + aW z : Nat) : Int), ((k + 1 : Nat) : Int), ())) := by
 have hm : n + 1 + 1 + 1 + 4 * List.length z.2.2.2.1 = n + aW z := by unfold aW; omega
 have b0 : n ≤ 1073741824 := by omega
 have b1 : n + 1 ≤ 1073741824 := by omega
 have b2 : n + 1 + 1 ≤ 1073741824 := by omega
 have b3 : n + 1 + 1 + 1 ≤ 1073741824 := by omega
 obtain ⟨h0, h1, h2, h3⟩ := hd; rw [← hm]; simp only [eT, lQ, aw hk, aq, cond_true, cond_false, az, hy, decide_true, dh, beq_self_eq_true, Bool.not_true, Option.bind_some, h0, h1, h2, h3, kr b0, kr b1, kr b2, Hn, aA Q8]
theorem Gv (xs : List (bw)) (a : Nat) (h : List.length xs + wl aF xs ≤ 4194304) (ha : a ≤ 536870912) : ∃ l, lB xs ((a : Nat) : Int) = some (((a + wl aW xs : Nat) : Int), l, ()) ∧ lD l ((a : Nat) : Int) = some (((a + wl aW xs : Nat) : Int), ()) ∧ (List.length l = List.length xs ∧ wl aW xs ≤ 4 * (List.length xs + wl aF xs)) := by
 have hm := BC xs; obtain ⟨l, h1, h2, h3⟩ := Ck aW tL eR xs a (fun l m hl => by simp only [eR, lO, hl, ax, cond_false]) (fun l k hk n hl hz hn => Gt l k xs[k] n (by omega) (by omega) hz (Nat.le_trans (pN aF xs _ (List.getElem_mem hk)) (by omega)) (by omega)); refine ⟨l, ?_, ?_, h2, hm⟩
 · unfold lB; rw [h1]; rfl
 · have h4 := Cl aW tL eT xs l a h2 h3 (fun m => by simp only [eT, lQ, h2, ax, cond_false]) (fun k hk n y Bl hy hd hn => Gu l k xs[k] y n Bl (by omega) hy hd (by omega)); unfold lD; rw [h4]; rfl
def aK (x : bF) : Nat := 1 + 1 + 1 * List.length x.2.2.1 + 1 + 1 + 1 + 1 + 1 * List.length x.2.2.2.2.2.2.2.1
theorem zu (x : bF) : aK x ≤ 6 * (1 + au x) := by
 unfold aK au; omega
theorem yp (xs : List (bF)) : wl aK xs ≤ 6 * (List.length xs + wl au xs) := AT _ _ 6 zu xs
def vE (x : bF) (n : Nat) (y : bF) : Prop := y.1 = ((n : Nat) : Int) ∧ y.2.1 = ((n + 1 : Nat) : Int) ∧ eD y.2.2.1 ((n + 1 + 1 : Nat) : Int) = some (((n + 1 + 1 + 1 * List.length x.2.2.1 : Nat) : Int), ()) ∧ y.2.2.2.1 = ((n + 1 + 1 + 1 * List.length x.2.2.1 : Nat) : Int) ∧ y.2.2.2.2.1 = ((n + 1 + 1 + 1 * List.length x.2.2.1 + 1 : Nat) : Int) ∧ y.2.2.2.2.2.1 = ((n + 1 + 1 + 1 * List.length x.2.2.1 + 1 + 1 : Nat) : Int) ∧ y.2.2.2.2.2.2.1 = tK (n + 1 + 1 + 1 * List.length x.2.2.1 + 1 + 1 + 1) ∧ eD y.2.2.2.2.2.2.2.1 ((n + 1 + 1 + 1 * List.length x.2.2.1 + 1 + 1 + 1 + 1 : Nat) : Int) = some (((n + 1 + 1 + 1 * List.length x.2.2.1 + 1 + 1 + 1 + 1 + 1 * List.length x.2.2.2.2.2.2.2.1 : Nat) : Int), ())
theorem I5 (l : List (bF)) (k : Nat) (z : bF) (n : Nat) (hk : k < l.length) (Q8 : k < 4611686018427387904) (hz : l[k]? = some z) (hw : au z ≤ 4194304) (hn : n + aK z ≤ 562036736) : ∃ y, vE z n y ∧ fv (l, ((n : Nat) : Int), ((k : Nat) : Int), ()) = some (.inl (l.set k y, ((n + aK z : Nat) : Int), ((k + 1 : Nat) : Int), ())) := by
 have hm : n + 1 + 1 + 1 * List.length z.2.2.1 + 1 + 1 + 1 + 1 + 1 * List.length z.2.2.2.2.2.2.2.1 = n + aK z := by unfold aK; omega
 have b0 : n ≤ 1073741824 := by omega
 have b1 : n + 1 ≤ 1073741824 := by omega
 have b2 : n + 1 + 1 ≤ 1073741824 := by omega
 have b3 : n + 1 + 1 + 1 * List.length z.2.2.1 ≤ 1073741824 := by omega
 have b4 : n + 1 + 1 + 1 * List.length z.2.2.1 + 1 ≤ 1073741824 := by omega
 have b5 : n + 1 + 1 + 1 * List.length z.2.2.1 + 1 + 1 ≤ 1073741824 := by omega
 have b6 : n + 1 + 1 + 1 * List.length z.2.2.1 + 1 + 1 + 1 ≤ 1073741824 := by omega
 have b7 : n + 1 + 1 + 1 * List.length z.2.2.1 + 1 + 1 + 1 + 1 ≤ 1073741824 := by omega
 have hw0 : au z = (List.length z.2.2.1 + wl cX z.2.2.1) + ByteArray.size z.2.2.2.2.2.2.1 + (List.length z.2.2.2.2.2.2.2.1 + wl cX z.2.2.2.2.2.2.2.1) := rfl; obtain ⟨l2, e2, g2, _⟩ := xC z.2.2.1 (n + 1 + 1) (by omega) (by omega); obtain ⟨l7, e7, g7, _⟩ := xC z.2.2.2.2.2.2.2.1 (n + 1 + 1 + 1 * List.length z.2.2.1 + 1 + 1 + 1 + 1) (by omega) (by omega); refine ⟨(((n : Nat) : Int), ((n + 1 : Nat) : Int), l2, ((n + 1 + 1 + 1 * List.length z.2.2.1 : Nat) : Int), ((n + 1 + 1 + 1 * List.length z.2.2.1 + 1 : Nat) : Int), ((n + 1 + 1 + 1 * List.length z.2.2.1 + 1 + 1 : Nat) : Int), tK (n + 1 + 1 + 1 * List.length z.2.2.1 + 1 + 1 + 1), l7, ()), ⟨rfl, rfl, g2, rfl, rfl, rfl, rfl, g7⟩, ?_⟩; rw [← hm]; simp only [fv, mI, aw hk, aq, cond_true, az, List.length_set, fJ hk, hz, List.getElem?_set_self hk, List.set_set, Option.bind_some, e2, e7, kr b0, kr b1, kr b3, kr b4, kr b5, kr b6, EY b6, aA Q8]
theorem I6 (l : List (bF)) (k : Nat) (z y : bF) (n : Nat) (hk : k < l.length) (Q8 : k < 4611686018427387904) (hy : l[k]? = some y) (hd : vE z n y) (hn : n + aK z ≤ 562036736) : fw (l, ((n : Nat) : Int), ((k : Nat) : Int), ()) = some (.inl (l, ((n + aK z : Nat) : Int), ((k + 1 : Nat) : Int), ())) := by
 have hm : n + 1 + 1 + 1 * List.length z.2.2.1 + 1 + 1 + 1 + 1 + 1 * List.length z.2.2.2.2.2.2.2.1 = n + aK z := by unfold aK; omega
 have b0 : n ≤ 1073741824 := by omega
 have b1 : n + 1 ≤ 1073741824 := by omega
 have b2 : n + 1 + 1 ≤ 1073741824 := by omega
 have b3 : n + 1 + 1 + 1 * List.length z.2.2.1 ≤ 1073741824 := by omega
 have b4 : n + 1 + 1 + 1 * List.length z.2.2.1 + 1 ≤ 1073741824 := by omega
 have b5 : n + 1 + 1 + 1 * List.length z.2.2.1 + 1 + 1 ≤ 1073741824 := by omega
 have b6 : n + 1 + 1 + 1 * List.length z.2.2.1 + 1 + 1 + 1 ≤ 1073741824 := by omega
 have b7 : n + 1 + 1 + 1 * List.length z.2.2.1 + 1 + 1 + 1 + 1 ≤ 1073741824 := by omega
 obtain ⟨h0, h1, h2, h3, h4, h5, h6, h7⟩ := hd; rw [← hm]; simp only [fw, mJ, aw hk, aq, cond_true, cond_false, az, hy, decide_true, dh, beq_self_eq_true, Bool.not_true, Option.bind_some, h0, h1, h2, h3, h4, h5, h6, h7, kr b0, kr b1, kr b3, kr b4, kr b5, kr b6, EY b6, Hn, aA Q8]
theorem I7 (xs : List (bF)) (a : Nat) (h : List.length xs + wl au xs ≤ 4194304) (ha : a ≤ 536870912) : ∃ l, mq xs ((a : Nat) : Int) = some (((a + wl aK xs : Nat) : Int), l, ()) ∧ mr l ((a : Nat) : Int) = some (((a + wl aK xs : Nat) : Int), ()) ∧ (List.length l = List.length xs ∧ wl aK xs ≤ 6 * (List.length xs + wl au xs)) := by
 have hm := yp xs; obtain ⟨l, h1, h2, h3⟩ := Ck aK vE fv xs a (fun l m hl => by simp only [fv, mI, hl, ax, cond_false]) (fun l k hk n hl hz hn => I5 l k xs[k] n (by omega) (by omega) hz (Nat.le_trans (pN au xs _ (List.getElem_mem hk)) (by omega)) (by omega)); refine ⟨l, ?_, ?_, h2, hm⟩
 · unfold mq; rw [h1]; rfl
 · have h4 := Cl aK vE fw xs l a h2 h3 (fun m => by simp only [fw, mJ, h2, ax, cond_false]) (fun k hk n y Bl hy hd hn => I6 l k xs[k] y n Bl (by omega) hy hd (by omega)); unfold mr; rw [h4]; rfl
theorem Cm (aU : Int) (aM : Bool) (aN : Int) (aH : Int) (bc : aG) (aS : ak) (bS : aG) (bM : hZ) (fy : Int) (fA : Int) (cB : Int) (cC : Int) (cD : Int) (cE : Int) (cF : Int) (bC : Int) (ic : Int) (cW : aG) (kJ : Int) (kK : Int) (ie : Int) (db : aG) (de : af) (dq : ah) (a : Nat) (h4 : List.length bc ≤ 4194304) (h5 : List.length aS ≤ 4194304) (h6 : List.length bS ≤ 4194304) (h7 : List.length bM ≤ 4194304) (h17 : List.length cW ≤ 4194304) (h21 : List.length db ≤ 4194304) (h22 : List.length de + wl aF de ≤ 4194304) (h23 : List.length dq + wl au dq ≤ 4194304) (ha : a ≤ 134217728) : ∃ l4 l5 l6 l7 WI WJ Ss Su, dV aU aM aN aH bc aS bS bM fy fA cB cC cD cE cF bC ic cW kJ kK ie db de dq ((a : Nat) : Int) = some (((a + 1 * List.length bc + 4 * List.length aS + 1 * List.length bS + 1 * List.length bM + 1 * List.length cW + 1 * List.length db + wl aW de + wl aK dq : Nat) : Int), l4, l5, l6, l7, WI, WJ, Ss, Su, ()) ∧ eW aU aM aN aH l4 l5 l6 l7 fy fA cB cC cD cE cF bC ic WI kJ kK ie WJ Ss Su ((a : Nat) : Int) = some (((a + 1 * List.length bc + 4 * List.length aS + 1 * List.length bS + 1 * List.length bM + 1 * List.length cW + 1 * List.length db + wl aW de + wl aK dq : Nat) : Int), ()) ∧ List.length l4 = List.length bc ∧ List.length l5 = List.length aS ∧ List.length l6 = List.length bS ∧ List.length l7 = List.length bM ∧ List.length WI = List.length cW ∧ List.length WJ = List.length db ∧ (List.length Ss = List.length de ∧ wl aW de ≤ 4 * (List.length de + wl aF de)) ∧ (List.length Su = List.length dq ∧ wl aK dq ≤ 6 * (List.length dq + wl au dq)) := by
 obtain ⟨l4, l5, l6, l7, WI, e0, g0, nl4, WG, nl6, nl7, ab2⟩ := MZ aN aH bc aS bS bM fy fA cB cC cD cE cF bC ic cW (a) h4 h5 h6 h7 h17 (by omega); obtain ⟨WJ, e1, g1, ab3⟩ := Ho ie db (a + 1 * List.length bc + 4 * List.length aS + 1 * List.length bS + 1 * List.length bM + 1 * List.length cW) h21 (by omega); obtain ⟨Ss, e2, g2, ab4⟩ := Gv de (a + 1 * List.length bc + 4 * List.length aS + 1 * List.length bS + 1 * List.length bM + 1 * List.length cW + 1 * List.length db) h22 (by omega); obtain ⟨Su, e3, g3, ab5⟩ := I7 dq (a + 1 * List.length bc + 4 * List.length aS + 1 * List.length bS + 1 * List.length bM + 1 * List.length cW + 1 * List.length db + wl aW de) h23 (by omega); refine ⟨l4, l5, l6, l7, WI, WJ, Ss, Su, ?_, ?_, nl4, WG, nl6, nl7, ab2, ab3, ab4, ab5⟩
 · simp only [dV, e0, e1, e2, e3, Option.bind_some]
 · simp only [eW, g0, g1, g2, g3, Option.bind_some, cond_false, aj (show ¬ ((a + 1 * List.length bc + 4 * List.length aS + 1 * List.length bS + 1 * List.length bM + 1 * List.length cW : Nat) : Int) < 0 by omega), aj (show ¬ ((a + 1 * List.length bc + 4 * List.length aS + 1 * List.length bS + 1 * List.length bM + 1 * List.length cW + 1 * List.length db : Nat) : Int) < 0 by omega), aj (show ¬ ((a + 1 * List.length bc + 4 * List.length aS + 1 * List.length bS + 1 * List.length bM + 1 * List.length cW + 1 * List.length db + wl aW de : Nat) : Int) < 0 by omega), aj (show ¬ ((a + 1 * List.length bc + 4 * List.length aS + 1 * List.length bS + 1 * List.length bM + 1 * List.length cW + 1 * List.length db + wl aW de + wl aK dq : Nat) : Int) < 0 by omega)]
theorem I8 (aU : Int) (aM : Int) (aN : Int) (aH : ak) (a : Nat) (h3 : List.length aH ≤ 4194304) (ha : a ≤ 536870912) : ∃ l3, jY aU aM aN aH ((a : Nat) : Int) = some (((a + 4 * List.length aH : Nat) : Int), l3, ()) ∧ List.length l3 = List.length aH := by
 obtain ⟨l3, e0, g0, nl3⟩ := AY aH (a) h3 (by omega); refine ⟨l3, ?_, nl3⟩
 · simp only [jY, e0, Option.bind_some]
end Go.TM
set_option linter.unusedSimpArgs false
set_option linter.unusedVariables false
namespace Go.TM
open Go
theorem oA (a b c : Int) : bJ a b c = some (decide (b ≤ a) && decide (a ≤ c), ()) := by
 unfold bJ
 cases decide (b ≤ a) <;> rfl
theorem sn (a b c : Int) : bO a b c = some (decide (b ≤ a) && decide (a ≤ c), ()) := by
 unfold bO
 cases decide (b ≤ a) <;> rfl
theorem sS (a : Int) : iR a = some (decide (1 ≤ a) && decide (a ≤ 5), ()) := by
 unfold iR; rw [sn]; rfl
def zI {A B : Type} : Sum A (Bool × Unit) → Sum B (Bool × Unit) → Prop
 | .inl _, .inl _ => True
 | .inr a, .inr b => a.1 = b.1
 | _, _ => False
theorem qE {k : Nat} (h0 : 0 < k) (h : k < 4611686018427387904) : IntKind.i64.wrap (((k : Nat) : Int) - (1 : Int)) = (((k - 1 : Nat)) : Int) := by
 rw [ej] <;> omega
theorem I9 (c : Int) (xs : List (Int × Unit)) (h : xs.length ≤ 1048576) :
   ∃ e f, aD eK (c, xs, (0 : Int), ()) = some e ∧ aD kU (c, xs, xs, ((List.length xs : Nat) : Int), (0 : Int), ()) = some f ∧ zI e f := by
 refine sM xs.length (fun k x y => x = (c, xs, ((k : Nat) : Int), ()) ∧ y = (c, xs, xs, ((List.length xs : Nat) : Int), ((k : Nat) : Int), ())) zI ?_ ⟨rfl, rfl⟩
 rintro k x y hk ⟨rfl, rfl⟩
 by_cases dC : k < xs.length
 · simp only [eK, kQ, kU, qX, aw dC, aq, cond_true, az, List.getElem?_eq_getElem dC, Option.bind_some, oA, sS, aA (show k < 4611686018427387904 by omega)]
   cases (decide (1 ≤ xs[k].1) && decide (xs[k].1 ≤ 5))
   · exact .inl ⟨.inr (false, ()), .inr (false, ()), rfl, rfl, rfl⟩
   · by_cases h0 : 0 < k
     · have hp : k - 1 < xs.length := by omega
       rw [qE h0 (by omega)]; simp only [ai (show (0 : Int) < ((k : Nat) : Int) by omega), Bool.not_true, cond_false, cond_true, aq, az, List.getElem?_eq_getElem hp, Option.bind_some]
       cases decide (xs[k].1 ≤ xs[k - 1].1)
       · exact .inr ⟨dC, _, _, rfl, rfl, rfl, rfl⟩
       · exact .inl ⟨.inr (false, ()), .inr (false, ()), rfl, rfl, rfl⟩
     · have : k = 0 := by omega
       subst this; simp only [aj (show ¬ (0 : Int) < ((0 : Nat) : Int) by omega), Bool.not_true, cond_false]; exact .inr ⟨dC, _, _, rfl, rfl, rfl, rfl⟩
 · have : k = xs.length := by omega
   subst this; exact .inl ⟨.inl (), .inl (), by simp only [eK, kQ, ax, cond_false], by simp only [kU, qX, ax, cond_false], trivial⟩
theorem vF (c : Int) (xs : List (Int × Unit)) (h : xs.length ≤ 1048576) : ∃ b, ee c xs = some (b, ()) ∧ iJ c xs = some (b, ()) ∧ (b = true → 1 ≤ xs.length ∧ xs.length ≤ 5) := by
 obtain ⟨e, f, h1, h2, h3⟩ := I9 c xs h; unfold ee iJ; simp only [oA, sn, Option.bind_some, h1, h2]
 cases (decide (1 ≤ c) && decide (c ≤ 9))
 · exact ⟨false, rfl, rfl, fun h => by cases h⟩
 cases hb : (decide (1 ≤ ((List.length xs : Nat) : Int)) && decide (((List.length xs : Nat) : Int) ≤ 5))
 · exact ⟨false, rfl, rfl, fun h => by cases h⟩
 have hl : 1 ≤ xs.length ∧ xs.length ≤ 5 := by
   rw [Bool.and_eq_true, decide_eq_true_eq, decide_eq_true_eq] at hb; omega
 cases e with
 | inl e => cases f with
   | inl f => exact ⟨true, rfl, rfl, fun _ => hl⟩
   | inr f => exact h3.elim
 | inr e => cases f with
   | inl f => exact h3.elim
   | inr f => exact ⟨e.1, rfl, by rw [show e.1 = f.1 from h3]; rfl, fun _ => hl⟩
end Go.TM
set_option linter.unusedSimpArgs false
set_option linter.unusedVariables false
namespace Go.TM
open Go
def NN (e : Sum Unit (Bool × Unit)) (f : Sum Unit (Int × Unit)) : Prop := ∃ b, (e = .inl () ∧ f = .inl () ∧ b = false) ∨ (e = .inr (true, ()) ∧ (∃ k : Nat, f = .inr (((k : Nat) : Int), ())) ∧ b = true)
theorem M0 (d : Int) (xs : List (Int × Unit)) (h : xs.length ≤ 1048576) :
   ∃ e f, aD fC (xs, d, (0 : Int), ()) = some e ∧ aD gv (xs, d, ((List.length xs : Nat) : Int), (0 : Int), ()) = some f ∧ NN e f := by
 refine sM xs.length (fun k x y => x = (xs, d, ((k : Nat) : Int), ()) ∧ y = (xs, d, ((List.length xs : Nat) : Int), ((k : Nat) : Int), ())) NN ?_ ⟨rfl, rfl⟩
 rintro k x y hk ⟨rfl, rfl⟩
 by_cases dC : k < xs.length
 · simp only [fC, l9, gv, lJ, aw dC, aq, cond_true, az, List.getElem?_eq_getElem dC, Option.bind_some, aA (show k < 4611686018427387904 by omega)]
   by_cases hd : xs[k].1 = d
   · rw [ai hd, ai hd.symm]; exact .inl ⟨.inr (true, ()), .inr (((k : Nat) : Int), ()), rfl, rfl, true, .inr ⟨rfl, ⟨k, rfl⟩, rfl⟩⟩
   · rw [aj hd, aj (fun e => hd e.symm)]; exact .inr ⟨dC, _, _, rfl, rfl, rfl, rfl⟩
 · have : k = xs.length := by omega
   subst this; exact .inl ⟨.inl (), .inl (), by simp only [fC, l9, ax, cond_false], by simp only [gv, lJ, ax, cond_false], false, .inl ⟨rfl, rfl, rfl⟩⟩
theorem pz (d : Int) (xs : List (Int × Unit)) (h : xs.length ≤ 1048576) : ∃ b, eL xs d = some (b, ()) ∧ dg xs d = some (b, ()) := by
 obtain ⟨e, f, h1, h2, b, h3⟩ := M0 d xs h; unfold eL dg oT; rw [h1, h2]; rcases h3 with ⟨rfl, rfl, rfl⟩ | ⟨rfl, ⟨k, rfl⟩, rfl⟩
 · exact ⟨false, rfl, rfl⟩
 · refine ⟨true, rfl, ?_⟩; simp only [cM, Option.bind_some, aq]
end Go.TM
set_option linter.unusedSimpArgs false
set_option linter.unusedVariables false
namespace Go.TM
open Go
def Lq (t : Int × Int × Int × Int × Int × (List (Int × Unit)) × Unit) : Sum Unit (Bool × Unit) → Sum (Int × Int × Int × Int × Int × (List (Int × Unit)) × Unit) (Bool × Unit) → Prop
 | .inl _, .inl z => z = t
 | .inr a, .inr b => a.1 = false ∧ b.1 = false
 | _, _ => False
theorem Gw (c0 c1 c2 c3 c4 : Int) (xs : List (Int × Unit)) (h : xs.length ≤ 1048576) :
   ∃ e f, aD dR (c0, c1, c2, c3, c4, xs, (0 : Int), ()) = some e ∧ aD jX (c0, c1, c2, c3, c4, xs, xs, ((List.length xs : Nat) : Int), (0 : Int), ()) = some f ∧ Lq (c0, c1, c2, c3, c4, xs, ()) e f := by
 refine sM xs.length (fun k x y => x = (c0, c1, c2, c3, c4, xs, ((k : Nat) : Int), ()) ∧ y = (c0, c1, c2, c3, c4, xs, xs, ((List.length xs : Nat) : Int), ((k : Nat) : Int), ())) (Lq (c0, c1, c2, c3, c4, xs, ())) ?_ ⟨rfl, rfl⟩
 rintro k x y hk ⟨rfl, rfl⟩
 by_cases dC : k < xs.length
 · simp only [dR, jS, jX, pY, aw dC, aq, cond_true, az, List.getElem?_eq_getElem dC, Option.bind_some, oA, sn, aA (show k < 4611686018427387904 by omega)]
   cases (decide (1 ≤ xs[k].1) && decide (xs[k].1 ≤ c2))
   · exact .inl ⟨.inr (false, ()), .inr (false, ()), rfl, rfl, rfl, rfl⟩
   · by_cases h0 : 0 < k
     · have hp : k - 1 < xs.length := by omega
       rw [qE h0 (by omega)]; simp only [ai (show (0 : Int) < ((k : Nat) : Int) by omega), Bool.not_true, cond_false, cond_true, aq, az, List.getElem?_eq_getElem hp, Option.bind_some]
       cases decide (xs[k].1 ≤ xs[k - 1].1)
       · exact .inr ⟨dC, _, _, rfl, rfl, rfl, rfl⟩
       · exact .inl ⟨.inr (false, ()), .inr (false, ()), rfl, rfl, rfl, rfl⟩
     · have : k = 0 := by omega
       subst this; simp only [aj (show ¬ (0 : Int) < ((0 : Nat) : Int) by omega), Bool.not_true, cond_false]; exact .inr ⟨dC, _, _, rfl, rfl, rfl, rfl⟩
 · have : k = xs.length := by omega
   subst this; exact .inl ⟨.inl (), .inl (c0, c1, c2, c3, c4, xs, ()), by simp only [dR, jS, ax, cond_false], by simp only [jX, pY, ax, cond_false], rfl⟩
theorem wD (c0 c1 c2 c3 c4 : Int) (xs : List (Int × Unit)) (h : xs.length ≤ 1048576) : ∃ b, gH c0 c1 c2 c3 c4 xs = some (b, ()) ∧ lu c0 c1 c2 c3 c4 xs = some (b, ()) ∧ (b = true → 0 ≤ c2 ∧ c2 ≤ 60 ∧ 0 ≤ c3 ∧ c3 ≤ c2 ∧ xs.length ≤ 20 ∧ (∀ y ∈ [c0, c1], 1 ≤ y)) := by
 obtain ⟨e, f, h1, h2, h3⟩ := Gw c0 c1 c2 c3 c4 xs h; unfold gH lu; simp only [oA, sn, Option.bind_some, h1, h2]
 cases q0 : (decide (1 ≤ c0) && decide (c0 ≤ 9))
 · exact ⟨false, rfl, rfl, fun h => by cases h⟩
 cases q1 : (decide (1 ≤ c1) && decide (c1 ≤ 1000000000))
 · exact ⟨false, rfl, rfl, fun h => by cases h⟩
 cases q2 : (decide (0 ≤ c2) && decide (c2 ≤ 60))
 · exact ⟨false, rfl, rfl, fun h => by cases h⟩
 cases e with
 | inl e => cases f with
   | inl f =>
     have h3 : f = (c0, c1, c2, c3, c4, xs, ()) := h3; subst h3; simp only [cM, Option.bind_some, sn, Bool.not_true, cond_false]
     cases q3 : (decide (0 ≤ c3) && decide (c3 ≤ c2))
     · exact ⟨false, rfl, rfl, fun h => by cases h⟩
     cases (decide (0 ≤ c4) && decide (c4 ≤ 5))
     · exact ⟨false, rfl, rfl, fun h => by cases h⟩
     by_cases hl : ((List.length xs : Nat) : Int) ≤ 20
     · rw [ai hl, aj (show ¬ (20 : Int) < ((List.length xs : Nat) : Int) by omega)]; refine ⟨true, rfl, rfl, fun _ => ?_⟩; rw [Bool.and_eq_true, decide_eq_true_eq, decide_eq_true_eq] at q0 q1 q2 q3; refine ⟨q2.1, q2.2, q3.1, q3.2, by omega, fun y hy => ?_⟩; rcases List.mem_cons.1 hy with rfl | hy
       · exact q0.1
       · rcases List.mem_cons.1 hy with rfl | hy
         · exact q1.1
         · cases hy
     · rw [aj hl, ai (show (20 : Int) < ((List.length xs : Nat) : Int) by omega)]; exact ⟨false, rfl, rfl, fun h => by cases h⟩
   | inr f => exact h3.elim
 | inr e => cases f with
   | inl f => exact h3.elim
   | inr f =>
     obtain ⟨e1, e2⟩ := (show e.1 = false ∧ f.1 = false from h3); refine ⟨false, ?_, by rw [← e2]; rfl, fun h => by cases h⟩
     cases (decide (0 ≤ c3) && decide (c3 ≤ c2))
     · rfl
     cases (decide (0 ≤ c4) && decide (c4 ≤ 5))
     · rfl
     cases decide ((20 : Int) < ((List.length xs : Nat) : Int))
     · show some (e.1, ()) = some (false, ()); rw [e1]
     · rfl
theorem mX (xs : List (Int × Unit)) (h : xs.length ≤ 1048576) : cR xs = some (xs, ()) := by
 unfold cR; rw [bh (show (0 + xs.length) * 8 ≤ lim by unfold lim; omega)]; rfl
theorem Dm (c0 c1 c2 c3 c4 : Int) (xs : List (Int × Unit)) (h : xs.length ≤ 1048576) : kx c0 c1 c2 c3 c4 xs = some (c0, c1, c2, c3, c4, xs, ()) ∧ nJ c0 c1 c2 c3 c4 xs = some (c0, c1, c2, c3, c4, xs, ()) := by
 constructor
 · unfold kx; rw [bh (show (0 + xs.length) * 8 ≤ lim by unfold lim; omega)]; rfl
 · unfold nJ; rw [mX xs h]; rfl
def AZ (c2 : Int) (xs : List (Int × Unit)) (n : Nat) : Prop := ∀ k (h : k < xs.length), k < n → 1 ≤ xs[k].1 ∧ xs[k].1 ≤ c2 ∧ ∀ h0 : 0 < k, xs[k - 1].1 < xs[k].1
def WK (c0 c1 c2 c3 c4 : Int) (xs : List (Int × Unit)) : Prop := (1 ≤ c0 ∧ c0 ≤ 9) ∧ (1 ≤ c1 ∧ c1 ≤ 1000000000) ∧ (0 ≤ c2 ∧ c2 ≤ 60) ∧ (0 ≤ c3 ∧ c3 ≤ c2) ∧ (0 ≤ c4 ∧ c4 ≤ 5) ∧ xs.length ≤ 20 ∧ AZ c2 xs xs.length
theorem Ja (c0 c1 c2 c3 c4 : Int) (xs : List (Int × Unit)) (h : xs.length ≤ 1048576) : ∃ b, gH c0 c1 c2 c3 c4 xs = some (b, ()) ∧ lu c0 c1 c2 c3 c4 xs = some (b, ()) ∧ (b = true ↔ WK c0 c1 c2 c3 c4 xs) := by
 obtain ⟨b, h1, h2, _⟩ := wD c0 c1 c2 c3 c4 xs h; refine ⟨b, h1, h2, ?_⟩; obtain ⟨e, he, hq⟩ := eH (round := dR) (x := (c0, c1, c2, c3, c4, xs, ((0 : Nat) : Int), ())) xs.length (fun k x => x = (c0, c1, c2, c3, c4, xs, ((k : Nat) : Int), ()) ∧ AZ c2 xs k)
   (fun e => (e = .inl () ∧ AZ c2 xs xs.length) ∨ (e = .inr (false, ()) ∧ ¬ AZ c2 xs xs.length)) (by
     rintro x ⟨rfl, g⟩
     exact ⟨.inl (), by simp only [dR, jS, ax, cond_false], .inl ⟨rfl, g⟩⟩) (by
     rintro k x dC ⟨rfl, g⟩
     simp only [dR, jS, aw dC, aq, cond_true, az, List.getElem?_eq_getElem dC, Option.bind_some, oA, aA (show k < 4611686018427387904 by omega)]; have more : 1 ≤ xs[k].1 → xs[k].1 ≤ c2 → (∀ h0 : 0 < k, xs[k - 1].1 < xs[k].1) → AZ c2 xs (k + 1) := by
       intro w1 w2 w3 j hj x7
       by_cases e : j < k
       · exact g j hj e
       · have : j = k := by omega
         subst this; exact ⟨w1, w2, w3⟩
     cases yI : (decide (1 ≤ xs[k].1) && decide (xs[k].1 ≤ c2))
     · refine .inl ⟨.inr (false, ()), rfl, .inr ⟨rfl, fun hn => ?_⟩⟩; obtain ⟨w1, w2, _⟩ := hn k dC dC; rw [ai w1, ai w2] at yI
       cases yI
     · rw [Bool.and_eq_true, decide_eq_true_eq, decide_eq_true_eq] at yI
       by_cases h0 : 0 < k
       · have hp : k - 1 < xs.length := by omega
         rw [qE h0 (by omega)]; simp only [ai (show (0 : Int) < ((k : Nat) : Int) by omega), Bool.not_true, cond_false, cond_true, aq, az, List.getElem?_eq_getElem hp, Option.bind_some]
         by_cases hd : xs[k].1 ≤ xs[k - 1].1
         · rw [ai hd]; refine .inl ⟨.inr (false, ()), rfl, .inr ⟨rfl, fun hn => ?_⟩⟩; have := (hn k dC dC).2.2 h0; omega
         · rw [aj hd]; exact .inr ⟨_, rfl, rfl, more yI.1 yI.2 (fun _ => by omega)⟩
       · have : k = 0 := by omega
         subst this; simp only [aj (show ¬ (0 : Int) < ((0 : Nat) : Int) by omega), Bool.not_true, cond_false]; exact .inr ⟨_, rfl, rfl, more yI.1 yI.2 (fun h0 => absurd h0 (Nat.lt_irrefl 0))⟩) ⟨rfl, fun j _ h => by omega⟩
 have he : aD dR (c0, c1, c2, c3, c4, xs, (0 : Int), ()) = some e := he; unfold gH at h1; simp only [oA, Option.bind_some, he] at h1; have no : ∀ {p : Prop}, (some (false, ()) : Option (Bool × Unit)) = some (b, ()) → ¬ p → (b = true ↔ p) := by
   intro p e1 hp; injection e1 with e1; injection e1 with e1; subst e1; exact ⟨(fun h => by cases h), fun h => absurd h hp⟩
 have yes : ∀ {p : Prop}, (some (true, ()) : Option (Bool × Unit)) = some (b, ()) → p → (b = true ↔ p) := by
   intro p e1 hp; injection e1 with e1; injection e1 with e1; subst e1; exact ⟨fun _ => hp, fun _ => rfl⟩
 by_cases q0 : 1 ≤ c0 ∧ c0 ≤ 9
 case neg =>
   rw [show (decide (1 ≤ c0) && decide (c0 ≤ 9)) = false by rw [Bool.and_eq_false_iff, decide_eq_false_iff_not, decide_eq_false_iff_not]; omega] at h1; exact no h1 (fun h => q0 h.1)
 rw [ai q0.1, ai q0.2] at h1
 by_cases q1 : 1 ≤ c1 ∧ c1 ≤ 1000000000
 case neg =>
   rw [show (decide (1 ≤ c1) && decide (c1 ≤ 1000000000)) = false by rw [Bool.and_eq_false_iff, decide_eq_false_iff_not, decide_eq_false_iff_not]; omega] at h1; exact no h1 (fun h => q1 h.2.1)
 rw [ai q1.1, ai q1.2] at h1
 by_cases q2 : 0 ≤ c2 ∧ c2 ≤ 60
 case neg =>
   rw [show (decide (0 ≤ c2) && decide (c2 ≤ 60)) = false by rw [Bool.and_eq_false_iff, decide_eq_false_iff_not, decide_eq_false_iff_not]; omega] at h1; exact no h1 (fun h => q2 h.2.2.1)
 rw [ai q2.1, ai q2.2] at h1
 by_cases q3 : 0 ≤ c3 ∧ c3 ≤ c2
 case neg =>
   rw [show (decide (0 ≤ c3) && decide (c3 ≤ c2)) = false by rw [Bool.and_eq_false_iff, decide_eq_false_iff_not, decide_eq_false_iff_not]; omega] at h1; exact no h1 (fun h => q3 h.2.2.2.1)
 rw [ai q3.1, ai q3.2] at h1
 by_cases q4 : 0 ≤ c4 ∧ c4 ≤ 5
 case neg =>
   rw [show (decide (0 ≤ c4) && decide (c4 ≤ 5)) = false by rw [Bool.and_eq_false_iff, decide_eq_false_iff_not, decide_eq_false_iff_not]; omega] at h1; exact no h1 (fun h => q4 h.2.2.2.2.1)
 rw [ai q4.1, ai q4.2] at h1
 by_cases q5 : (20 : Int) < ((List.length xs : Nat) : Int)
 · rw [ai q5] at h1; exact no h1 (fun h => by have := h.2.2.2.2.2.1; omega)
 rw [aj q5] at h1; rcases hq with ⟨rfl, q⟩ | ⟨rfl, q⟩
 · exact yes h1 ⟨q0, q1, q2, q3, q4, by omega, q⟩
 · exact no h1 (fun h => q h.2.2.2.2.2.2)
end Go.TM
set_option linter.unusedSimpArgs false
set_option linter.unusedVariables false
namespace Go.TM
open Go
theorem A3 (a : Int) : nK a = some (decide (1 ≤ a) && decide (a ≤ 2), ()) := by
 unfold nK
 by_cases h1 : a = 1
 · subst h1; rfl
 by_cases h2 : a = 2
 · subst h2; rfl
 have e : (decide (1 ≤ a) && decide (a ≤ 2)) = false := by
   rw [Bool.and_eq_false_iff, decide_eq_false_iff_not, decide_eq_false_iff_not]; omega
 rw [e, aj h1, aj h2]; rfl
theorem Jb (a b c : Int) (s : ByteArray) : ∃ x, iG a b c s = some (x, ()) ∧ kT a b c s = some (x, ()) := by
 unfold iG kT; simp only [oA, sn, sS, A3, Option.bind_some]
 cases (decide (1 ≤ a) && decide (a ≤ 60))
 · exact ⟨_, rfl, rfl⟩
 cases (decide (1 ≤ b) && decide (b ≤ 5))
 · exact ⟨_, rfl, rfl⟩
 cases (decide (1 ≤ c) && decide (c ≤ 2))
 · exact ⟨_, rfl, rfl⟩
 · exact ⟨_, rfl, rfl⟩
theorem Gx (xs : List (Int × Int × Int × ByteArray × Unit)) (h : xs.length ≤ 1048576) :
   ∃ e f, aD dQ (xs, (0 : Int), ()) = some e ∧ aD jW (xs, xs, ((List.length xs : Nat) : Int), (0 : Int), ()) = some f ∧ zI e f := by
 refine sM xs.length (fun k x y => x = (xs, ((k : Nat) : Int), ()) ∧ y = (xs, xs, ((List.length xs : Nat) : Int), ((k : Nat) : Int), ())) zI ?_ ⟨rfl, rfl⟩
 rintro k x y hk ⟨rfl, rfl⟩
 by_cases dC : k < xs.length
 · obtain ⟨b, r1, r2⟩ := Jb xs[k].1 xs[k].2.1 xs[k].2.2.1 xs[k].2.2.2.1; simp only [dQ, jR, jW, pX, aw dC, aq, cond_true, az, List.getElem?_eq_getElem dC, Option.bind_some, r1, r2, aA (show k < 4611686018427387904 by omega)]
   cases b
   · exact .inl ⟨.inr (false, ()), .inr (false, ()), rfl, rfl, rfl⟩
   · by_cases h0 : 0 < k
     · have hp : k - 1 < xs.length := by omega
       rw [qE h0 (by omega)]; simp only [ai (show (0 : Int) < ((k : Nat) : Int) by omega), Bool.not_true, cond_false, cond_true, aq, az, List.getElem?_eq_getElem hp, Option.bind_some]
       cases decide (xs[k].1 ≤ xs[k - 1].1)
       · exact .inr ⟨dC, _, _, rfl, rfl, rfl, rfl⟩
       · exact .inl ⟨.inr (false, ()), .inr (false, ()), rfl, rfl, rfl⟩
     · have : k = 0 := by omega
       subst this; simp only [aj (show ¬ (0 : Int) < ((0 : Nat) : Int) by omega), Bool.not_true, cond_false]; exact .inr ⟨dC, _, _, rfl, rfl, rfl, rfl⟩
 · have : k = xs.length := by omega
   subst this; exact .inl ⟨.inl (), .inl (), by simp only [dQ, jR, ax, cond_false], by simp only [jW, pX, ax, cond_false], trivial⟩
theorem wE (xs : List (Int × Int × Int × ByteArray × Unit)) (h : xs.length ≤ 1048576) : ∃ b, eM xs = some (b, ()) ∧ iI xs = some (b, ()) := by
 obtain ⟨e, f, h1, h2, h3⟩ := Gx xs h; unfold eM iI; rw [h1, h2]
 cases e with
 | inl e => cases f with
   | inl f => exact ⟨true, rfl, rfl⟩
   | inr f => exact h3.elim
 | inr e => cases f with
   | inl f => exact h3.elim
   | inr f => exact ⟨e.1, rfl, by rw [show e.1 = f.1 from h3]; rfl⟩
abbrev jt : Type := Int × Int × Int × ByteArray × Unit
abbrev bz : Type := List jt
def jM (xs : bz) (s : Int) : Option jt := xs.find? fun r => decide (r.1 = s)
def Dn : Option jt → Int × Int × Int × ByteArray × Bool × Unit
 | none => (0, 0, 0, ByteArray.empty, false, ())
 | some r => (r.1, r.2.1, r.2.2.1, r.2.2.2.1, true, ())
def Hp : Option jt → Sum (Int × Int × Int × ByteArray × Unit) (Int × Int × Int × ByteArray × Bool × Unit)
 | none => .inl (0, 0, 0, ByteArray.empty, ())
 | some r => .inr (Dn (some r))
theorem Cn (xs : bz) (s : Int) {k : Nat} (hk : k < xs.length) : jM (xs.drop k) s = if xs[k].1 = s then some xs[k] else jM (xs.drop (k + 1)) s := by
 unfold jM; rw [List.drop_eq_getElem_cons hk, List.find?_cons]
 by_cases h : xs[k].1 = s
 · rw [ai h, if_pos h]
 · rw [aj h, if_neg h]
theorem E0 (xs : bz) (s : Int) (h : xs.length ≤ 1048576) : rG xs s = some (Dn (jM xs s)) := by
 have hl := pG (round := ji) (n := xs.length) (fun k => (xs, s, (0 : Int), (0 : Int), (0 : Int), ByteArray.empty, ((k : Nat) : Int), ())) (fun k => some (Hp (jM (xs.drop k) s)))
   ⟨.inl (0, 0, 0, ByteArray.empty, ()), by simp only [ji, qS, ax, cond_false], by rw [List.drop_length]; rfl⟩ (fun k hk => by
     rw [Cn xs s hk]; simp only [ji, qS, aw hk, aq, cond_true, az, List.getElem?_eq_getElem hk, Option.bind_some, aA (show k < 4611686018427387904 by omega)]
     by_cases h : xs[k].1 = s
     · rw [ai h, if_pos h]; exact .inl ⟨_, rfl, rfl⟩
     · rw [aj h, if_neg h]; exact .inr ⟨rfl, rfl⟩) 0 (Nat.zero_le _)
 unfold rG; have hl : aD ji (xs, s, (0 : Int), (0 : Int), (0 : Int), ByteArray.empty, (0 : Int), ()) = _ := hl; rw [hl, List.drop_zero]
 cases jM xs s <;> rfl
theorem E1 (xs : bz) (s : Int) (h : xs.length ≤ 1048576) : rI xs s = some (Dn (jM xs s)) := by
 have hl := pG (round := jm) (n := xs.length) (fun k => (s, (0 : Int), (0 : Int), (0 : Int), ByteArray.empty, xs, ((List.length xs : Nat) : Int), ((k : Nat) : Int), ())) (fun k => some (Hp (jM (xs.drop k) s)))
   ⟨.inl (0, 0, 0, ByteArray.empty, ()), by simp only [jm, qY, ax, cond_false], by rw [List.drop_length]; rfl⟩ (fun k hk => by
     rw [Cn xs s hk]; simp only [jm, qY, aw hk, aq, cond_true, az, List.getElem?_eq_getElem hk, Option.bind_some, aA (show k < 4611686018427387904 by omega)]
     by_cases h : xs[k].1 = s
     · rw [ai h, if_pos h]; exact .inl ⟨_, rfl, rfl⟩
     · rw [aj h, if_neg h]; exact .inr ⟨rfl, rfl⟩) 0 (Nat.zero_le _)
 unfold rI; have hl : aD jm (s, (0 : Int), (0 : Int), (0 : Int), ByteArray.empty, xs, ((List.length xs : Nat) : Int), (0 : Int), ()) = _ := hl; rw [hl, List.drop_zero]
 cases jM xs s <;> rfl
theorem yW : (n : Nat) → (ys : List Int) → (∀ i, i < n → ((i + 1 : Nat) : Int) ∈ ys) → n ≤ ys.length
 | 0, _, _ => Nat.zero_le _
 | n + 1, ys, h => by
   have hm := h n (by omega); have := yW n (ys.erase ((n + 1 : Nat) : Int)) (fun i hi => (List.mem_erase_of_ne (by omega)).2 (h i (by omega))); rw [List.length_erase_of_mem hm] at this; have : 0 < ys.length := List.length_pos_of_mem hm; omega
theorem Gy {xs : bz} {s : Int} {r : jt} (h : jM xs s = some r) : r ∈ xs ∧ r.1 = s := by
 unfold jM at h; exact ⟨List.mem_of_find?_eq_some h, by have := List.find?_some h; simpa using this⟩
def Hq (xs : bz) (n : Nat) : Prop := n ≤ xs.length ∧ (∀ i, i < n → (jM xs ((i + 1 : Nat) : Int)).isSome = true) ∧ jM xs ((n + 1 : Nat) : Int) = none
theorem M1 {xs : bz} (h : ∀ i, i < xs.length → (jM xs ((i + 1 : Nat) : Int)).isSome = true) : jM xs ((xs.length + 1 : Nat) : Int) = none := by
 cases hq : jM xs ((xs.length + 1 : Nat) : Int) with
 | none => rfl
 | some r =>
   have key := yW (xs.length + 1) (xs.map (·.1)) (fun i hi => by
     have : ∃ r, jM xs ((i + 1 : Nat) : Int) = some r := by
       by_cases Ry : i < xs.length
       · exact Option.isSome_iff_exists.1 (h i Ry)
       · have : i = xs.length := by omega
         subst this; exact ⟨r, hq⟩
     obtain ⟨r', hr⟩ := this; obtain ⟨m1, m2⟩ := Gy hr; exact List.mem_map.2 ⟨r', m1, m2⟩)
   rw [List.length_map] at key; omega
theorem A4 (xs : bz) (h : xs.length ≤ 1048576) : ∃ n : Nat, kR xs = some (((n : Nat) : Int), ()) ∧ mH xs = some (((n : Nat) : Int), ()) ∧ Hq xs n := by
 obtain ⟨e, f, h1, h2, n, h3⟩ : ∃ e f, aD pr (xs, (0 : Int), (0 : Int), ()) = some e ∧ aD pv (xs, (0 : Int), ()) = some f ∧ ∃ n : Nat, (e = .inl (((n : Nat) : Int), ()) ∨ e = .inr (((n : Nat) : Int), ())) ∧ f = .inr (((n : Nat) : Int), ()) ∧ Hq xs n := by
   refine sM xs.length (fun k x y => x = (xs, ((k : Nat) : Int), ((k : Nat) : Int), ()) ∧ y = (xs, ((k : Nat) : Int), ()) ∧ ∀ i, i < k → (jM xs ((i + 1 : Nat) : Int)).isSome = true) _ ?_ ⟨rfl, rfl, fun i hi => by omega⟩
   rintro k x y hk ⟨rfl, rfl, n6⟩
   simp only [pr, vU, pv, vV, aA (show k < 4611686018427387904 by omega), E0 xs _ h, E1 xs _ h, Option.bind_some]
   by_cases dC : k < xs.length
   · rw [aw dC]
     cases hq : jM xs ((k + 1 : Nat) : Int) with
     | none => exact .inl ⟨.inr (((k : Nat) : Int), ()), .inr (((k : Nat) : Int), ()), rfl, rfl, k, .inr rfl, rfl, hk, n6, hq⟩
     | some r =>
       refine .inr ⟨dC, _, _, rfl, rfl, rfl, rfl, fun i hi => ?_⟩
       by_cases Ry : i < k
       · exact n6 i Ry
       · have : i = k := by omega
         subst this; rw [hq]; rfl
   · have : k = xs.length := by omega
     subst this; have hq := M1 n6; rw [ax, hq]; exact .inl ⟨.inl (((xs.length : Nat) : Int), ()), .inr (((xs.length : Nat) : Int), ()), rfl, rfl, xs.length, .inl rfl, rfl, hk, n6, hq⟩
 obtain ⟨h3, rfl, h4⟩ := h3; unfold kR mH; rw [h1, h2]; refine ⟨n, ?_, rfl, h4⟩; rcases h3 with rfl | rfl <;> rfl
end Go.TM
set_option linter.unusedSimpArgs false
set_option linter.unusedVariables false
namespace Go.TM
open Go
abbrev WL : Type := Int × Int × (List (Int × Unit)) × Int × Int × Int × ByteArray × (List (Int × Unit)) × Unit
theorem A5 (xs : List WL) {k : Nat} (hk : k < xs.length) (h : xs.length + wl au xs ≤ 1048576) : xs[k].2.2.1.length ≤ 1048576 ∧ xs[k].2.2.2.2.2.2.2.1.length ≤ 1048576 := by
 have hw := pN au xs xs[k] (List.getElem_mem hk); have : au xs[k] = (List.length xs[k].2.2.1 + wl cX xs[k].2.2.1) + ByteArray.size xs[k].2.2.2.2.2.2.1 + (List.length xs[k].2.2.2.2.2.2.2.1 + wl cX xs[k].2.2.2.2.2.2.2.1) := rfl; omega
theorem zv (xs : List WL) (h : xs.length + wl au xs ≤ 1048576) : ft xs = some (xs, ()) := by
 have hl := bK (round := bZ) (e := .inl (xs, ())) xs.length (fun k => (xs, xs.take k, ((k : Nat) : Int), ())) (by
   simp only [bZ, fl, ax, cond_false, List.take_length]) (fun k hk => by
   obtain ⟨e1, e2⟩ := A5 xs hk h; simp only [bZ, fl, aw hk, aq, cond_true, az, List.getElem?_eq_getElem hk, Option.bind_some, List.length_take, Nat.min_eq_left (Nat.le_of_lt hk), bh (show (0 + xs[k].2.2.1.length) * 8 ≤ lim by unfold lim; omega), bh (show (0 + xs[k].2.2.2.2.2.2.2.1.length) * 8 ≤ lim by unfold lim; omega), bh (show (k + 1) * 104 ≤ lim by unfold lim; omega), aA (show k < 4611686018427387904 by omega), List.nil_append]; rw [List.take_succ_eq_append_getElem hk])
 have hl : aD bZ (xs, [], (0 : Int), ()) = _ := hl; unfold ft; rw [hl]; rfl
theorem zw (xs : List WL) (h : xs.length + wl au xs ≤ 1048576) : qm xs = some (xs, ()) := by
 have hl := bK (round := iv) (e := .inl (xs, ())) xs.length (fun k => (xs.take k, xs, ((xs.length : Nat) : Int), ((k : Nat) : Int), ())) (by
   simp only [iv, pW, ax, cond_false, List.take_length]) (fun k hk => by
   obtain ⟨e1, e2⟩ := A5 xs hk h; simp only [iv, pW, qW, cj, mX _ e1, mX _ e2, aw hk, aq, cond_true, az, List.getElem?_eq_getElem hk, Option.bind_some, List.length_take, Nat.min_eq_left (Nat.le_of_lt hk), bh (show (k + 1) * 104 ≤ lim by unfold lim; omega), aA (show k < 4611686018427387904 by omega)]; rw [List.take_succ_eq_append_getElem hk])
 have hl : aD iv ([], xs, ((xs.length : Nat) : Int), (0 : Int), ()) = _ := hl; unfold qm; rw [hl]; rfl
end Go.TM
set_option linter.unusedSimpArgs false
set_option linter.unusedVariables false
namespace Go.TM
open Go
theorem yX (a b c : Int) (xs : List (Int × Int × Int × ByteArray × Unit)) (h : xs.length ≤ 1048576) : ∃ x, fD a b c xs = some (x, ()) ∧ gN a b c xs = some (x, ()) := by
 obtain ⟨y, h1, h2⟩ := wE xs h; unfold fD gN; simp only [oA, sn, sS, Option.bind_some, h1, h2]
 cases (decide (1 ≤ a) && decide (a ≤ 5))
 · exact ⟨_, rfl, rfl⟩
 cases (decide (1 ≤ b) && decide (b ≤ 9))
 · exact ⟨_, rfl, rfl⟩
 cases (decide (0 ≤ c) && decide (c ≤ IntKind.i64.wrap (b - 1)))
 · exact ⟨_, rfl, rfl⟩
 cases y
 · exact ⟨_, rfl, rfl⟩
 cases decide (0 < c)
 · exact ⟨_, rfl, rfl⟩
 · exact ⟨_, rfl, rfl⟩
abbrev fx : Type := Int × Int × Int × bz × Unit
noncomputable def nW (b : fx) : Bool := match fD b.1 b.2.1 b.2.2.1 b.2.2.2.1 with | some x => x.1 | none => false
theorem oZ (b : fx) (h : b.2.2.2.1.length ≤ 1048576) : fD b.1 b.2.1 b.2.2.1 b.2.2.2.1 = some (nW b, ()) ∧ gN b.1 b.2.1 b.2.2.1 b.2.2.2.1 = some (nW b, ()) := by
 obtain ⟨x, h1, h2⟩ := yX b.1 b.2.1 b.2.2.1 b.2.2.2.1 h; have : nW b = x := by unfold nW; rw [h1]
 rw [this]; exact ⟨h1, h2⟩
theorem xD (xs : List fx) {k : Nat} (hk : k < xs.length) (h : xs.length + wl aF xs ≤ 1048576) : xs[k].2.2.2.1.length ≤ 1048576 := by
 have hw := pN aF xs xs[k] (List.getElem_mem hk); have : aF xs[k] = List.length xs[k].2.2.2.1 + wl bn xs[k].2.2.2.1 := rfl; omega
structure iZ (xs : List fx) : Prop where
 len : xs.length ≤ 4194304
 each : ∀ b ∈ xs, b.2.2.2.1.length ≤ 1048576
theorem iZ.at {xs : List fx} (h : iZ xs) {k : Nat} (hk : k < xs.length) : xs[k].2.2.2.1.length ≤ 1048576 := h.each _ (List.getElem_mem hk)
theorem iZ.of {xs : List fx} (h : xs.length + wl aF xs ≤ 1048576) : iZ xs := ⟨by omega, fun b hb => by
 obtain ⟨k, hk, rfl⟩ := List.mem_iff_getElem.1 hb; exact xD xs hk h⟩
theorem iZ.more {xs : List fx} (h : xs.length + wl aF xs ≤ 1048576) {b : fx} (hb : b.2.2.2.1.length ≤ 1048576) : iZ (xs ++ [b]) := ⟨by rw [List.length_append, List.length_singleton]; omega, fun x hx => by
 rcases List.mem_append.1 hx with hx | hx
 · exact (iZ.of h).each x hx
 · rw [List.mem_singleton] at hx; subst hx; exact hb⟩
noncomputable def gh (xs : List fx) (c id : Int) : Option fx := xs.find? fun b => decide (b.1 = id) && (decide (b.2.1 = c) && nW b)
abbrev p7 : Option fx → Int × Int × Int × bz × Bool × Unit
 | none => (0, 0, 0, [], false, ())
 | some b => (b.1, b.2.1, b.2.2.1, b.2.2.2.1, true, ())
def Lr : Option fx → Sum (Int × Int × Int × bz × Unit) (Int × Int × Int × bz × Bool × Unit)
 | none => .inl (0, 0, 0, [], ())
 | some b => .inr (p7 (some b))
theorem A6 (xs : List fx) (c id : Int) {k : Nat} (hk : k < xs.length) : gh (xs.drop k) c id = if (decide (xs[k].1 = id) && (decide (xs[k].2.1 = c) && nW xs[k])) = true then some xs[k] else gh (xs.drop (k + 1)) c id := by
 unfold gh; rw [List.drop_eq_getElem_cons hk, List.find?_cons]
 cases (decide (xs[k].1 = id) && (decide (xs[k].2.1 = c) && nW xs[k])) <;> rfl
theorem yr {xs : List fx} {c id : Int} {b : fx} (h : gh xs c id = some b) : b ∈ xs ∧ b.1 = id ∧ b.2.1 = c ∧ nW b = true := by
 unfold gh at h; have := List.find?_some h; simp only [Bool.and_eq_true, decide_eq_true_eq] at this; exact ⟨List.mem_of_find?_eq_some h, this⟩
theorem pa (aX : Int) (aY : List (Int × Unit)) (xs : List fx) (id : Int) (h : iZ xs) : cN aX aY xs id = some (p7 (gh xs aX id)) := by
 have Jp := h.len; have hl := pG (round := gV) (n := xs.length) (fun k => (xs, id, aX, aY, (0 : Int), (0 : Int), (0 : Int), [], ((k : Nat) : Int), ())) (fun k => some (Lr (gh (xs.drop k) aX id)))
   ⟨.inl (0, 0, 0, [], ()), by simp only [gV, oS, ax, cond_false], by rw [List.drop_length]; rfl⟩ (fun k hk => by
     have hb := (oZ xs[k] (h.at hk)).1; rw [A6 xs aX id hk]; simp only [gV, oS, aw hk, aq, cond_true, az, List.getElem?_eq_getElem hk, Option.bind_some, hb, aA (show k < 4611686018427387904 by omega)]
     cases decide (xs[k].1 = id)
     · exact .inr ⟨rfl, rfl⟩
     cases decide (xs[k].2.1 = aX)
     · exact .inr ⟨rfl, rfl⟩
     cases nW xs[k]
     · exact .inr ⟨rfl, rfl⟩
     · exact .inl ⟨_, rfl, rfl⟩) 0 (Nat.zero_le _)
 unfold cN; have hl : aD gV (xs, id, aX, aY, (0 : Int), (0 : Int), (0 : Int), [], (0 : Int), ()) = _ := hl; rw [hl, List.drop_zero]
 cases gh xs aX id <;> rfl
theorem q8 (aX : Int) (aY : List (Int × Unit)) (xs : List fx) (id : Int) (h : iZ xs) : gO aX aY xs id = some (p7 (gh xs aX id)) := by
 have Jp := h.len; have hl := pG (round := gX) (n := xs.length) (fun k => (id, aX, aY, (0 : Int), (0 : Int), (0 : Int), [], xs, ((xs.length : Nat) : Int), ((k : Nat) : Int), ())) (fun k => some (Lr (gh (xs.drop k) aX id)))
   ⟨.inl (0, 0, 0, [], ()), by simp only [gX, oV, ax, cond_false], by rw [List.drop_length]; rfl⟩ (fun k hk => by
     have hb := (oZ xs[k] (h.at hk)).2; rw [A6 xs aX id hk]; simp only [gX, oV, aw hk, aq, cond_true, az, List.getElem?_eq_getElem hk, Option.bind_some, hb, aA (show k < 4611686018427387904 by omega)]
     cases decide (xs[k].1 = id)
     · exact .inr ⟨rfl, rfl⟩
     cases decide (xs[k].2.1 = aX)
     · exact .inr ⟨rfl, rfl⟩
     cases nW xs[k]
     · exact .inr ⟨rfl, rfl⟩
     · exact .inl ⟨_, rfl, rfl⟩) 0 (Nat.zero_le _)
 unfold gO; have hl : aD gX (id, aX, aY, (0 : Int), (0 : Int), (0 : Int), [], xs, ((xs.length : Nat) : Int), (0 : Int), ()) = _ := hl; rw [hl, List.drop_zero]
 cases gh xs aX id <;> rfl
noncomputable def ib (xs : List fx) (c id : Int) (gz : fx) (out : List (Int × Unit)) (d : Int) : List (Int × Unit) :=
 match gh xs c d with
 | none => out
 | some b => if (d = id ∨ (b.2.2.1 = gz.2.2.1 ∧ 0 < b.2.2.1)) ∧ (d, ()) ∉ out then out ++ [(d, ())] else out
theorem Dp (xs : List fx) (c id : Int) (gz : fx) (out : List (Int × Unit)) (d : Int) : (ib xs c id gz out d).length ≤ out.length + 1 := by
 unfold ib
 split
 · omega
 · split
   · simp
   · omega
noncomputable def dA (xs : List fx) (c : Int) (ms : List (Int × Unit)) (id : Int) : List (Int × Unit) :=
 match gh xs c id with
 | none => []
 | some gz => ms.foldl (fun out m => ib xs c id gz out m.1) []
theorem xE (xs : List (Int × Unit)) (d : Int) (h : xs.length ≤ 1048576) : eL xs d = some (decide ((d, ()) ∈ xs), ()) := by
 have hl := pG (round := fC) (n := xs.length) (fun k => (xs, d, ((k : Nat) : Int), ())) (fun k => some (if (d, ()) ∈ xs.drop k then .inr (true, ()) else .inl ()))
   ⟨.inl (), by simp only [fC, l9, ax, cond_false], by rw [List.drop_length]; rfl⟩ (fun k hk => by
     rw [List.drop_eq_getElem_cons hk]; simp only [fC, l9, aw hk, aq, cond_true, az, List.getElem?_eq_getElem hk, Option.bind_some, aA (show k < 4611686018427387904 by omega)]
     by_cases e : xs[k].1 = d
     · rw [ai e]; exact .inl ⟨_, rfl, by rw [if_pos (List.mem_cons.2 (.inl (by rw [← e])))]⟩
     · rw [aj e]; refine .inr ⟨rfl, ?_⟩; have : ((d, ()) ∈ xs[k] :: xs.drop (k + 1)) ↔ ((d, ()) ∈ xs.drop (k + 1)) := by
         rw [List.mem_cons]; exact ⟨fun h => h.resolve_left (fun q => e (by rw [← q])), .inr⟩
       by_cases q : (d, ()) ∈ xs.drop (k + 1)
       · rw [if_pos q, if_pos (this.2 q)]
       · rw [if_neg q, if_neg (fun z => q (this.1 z))]) 0 (Nat.zero_le _)
 unfold eL; have hl : aD fC (xs, d, (0 : Int), ()) = _ := hl; rw [hl, List.drop_zero]
 by_cases q : (d, ()) ∈ xs
 · rw [if_pos q, ai q]; rfl
 · rw [if_neg q, aj q]; rfl
theorem Hr (xs : List (Int × Unit)) (d : Int) (h : xs.length ≤ 1048576) : dg xs d = some (decide ((d, ()) ∈ xs), ()) := by
 obtain ⟨b, h1, h2⟩ := pz d xs h; rw [xE xs d h] at h1; injection h1 with h1; injection h1 with h1 _; rw [h2, h1]
theorem qF {α β : Type} (f : β → α → β) (b : β) (xs : List α) {k : Nat} (hk : k < xs.length) : (xs.take (k + 1)).foldl f b = f ((xs.take k).foldl f b) xs[k] := by
 rw [List.take_succ_eq_append_getElem hk, List.foldl_append]; rfl
theorem tM (xs : List fx) (c id : Int) (gz : fx) (ms : List (Int × Unit)) (out : List (Int × Unit)) : (ms.foldl (fun out m => ib xs c id gz out m.1) out).length ≤ out.length + ms.length := by
 induction ms generalizing out with
 | nil => simp
 | cons m ms ih =>
   rw [List.foldl_cons, List.length_cons]; have h1 := ih (ib xs c id gz out m.1); have h2 := Dp xs c id gz out m.1; omega
theorem pA (aX : Int) (aY : List (Int × Unit)) (xs : List fx) (id : Int) (h0 : aY.length ≤ 1048576) (h : iZ xs) :
   fX aX aY xs id = some (dA xs aX aY id, ()) ∧ fY aX aY xs id = some (dA xs aX aY id, ()) ∧ (dA xs aX aY id).length ≤ aY.length := by
 have Jp := h.len; unfold fX fY dA; rw [pa _ _ _ _ h, q8 _ _ _ _ h]
 cases hm : gh xs aX id with
 | none => exact ⟨rfl, rfl, Nat.zero_le _⟩
 | some gz =>
   have Xr := (yr hm).2.1; have hlen := tM xs aX id gz aY []; rw [List.length_nil, Nat.zero_add] at hlen; have hk8 : ∀ k, k < aY.length → Nat.ble ((((aY.take k).foldl (fun out m => ib xs aX id gz out m.1) []).length + 1) * 8) lim = true := fun k hk => by
     have := tM xs aX id gz (aY.take k) []; rw [List.length_nil, Nat.zero_add, List.length_take] at this; exact bh (by unfold lim; omega)
   have yI : ∀ k, k < aY.length → ((aY.take k).foldl (fun out m => ib xs aX id gz out m.1) []).length ≤ 1048576 := fun k hk => by
     have := tM xs aX id gz (aY.take k) []; rw [List.length_nil, Nat.zero_add, List.length_take] at this; omega
   have l1 := bK (round := dw) (e := .inl (aY.foldl (fun out m => ib xs aX id gz out m.1) [], ())) aY.length (fun k => (xs, id, aX, aY, (aY.take k).foldl (fun out m => ib xs aX id gz out m.1) [], gz.1, gz.2.1, gz.2.2.1, gz.2.2.2.1, ((k : Nat) : Int), ())) (by
     simp only [dw, fL, ax, cond_false, List.take_length]) (fun k hk => by
     rw [qF _ _ _ hk]; have e8 := hk8 k hk; have ei := yI k hk; generalize (aY.take k).foldl (fun out m => ib xs aX id gz out m.1) [] = out at e8 ei ⊢; simp only [dw, fL, aw hk, aq, cond_true, az, List.getElem?_eq_getElem hk, Option.bind_some, pa _ _ _ _ h, aA (show k < 4611686018427387904 by omega)]; unfold ib
     cases hb : gh xs aX aY[k].1 with
     | none => rfl
     | some b =>
       have hf := (yr hb).2.1; simp only [p7, hf, xE _ _ ei, Option.bind_some, cond_true, e8]
       by_cases q1 : aY[k].1 = id
       · rw [ai q1]
         by_cases q3 : (aY[k].1, ()) ∈ out
         · rw [ai q3, if_neg (fun z => z.2 q3)]; rfl
         · rw [aj q3, if_pos ⟨.inl q1, q3⟩]; rfl
       rw [aj q1]
       by_cases q2 : b.2.2.1 = gz.2.2.1
       · rw [ai q2]
         by_cases q4 : 0 < b.2.2.1
         · rw [ai q4]
           by_cases q3 : (aY[k].1, ()) ∈ out
           · rw [ai q3, if_neg (fun z => z.2 q3)]; rfl
           · rw [aj q3, if_pos ⟨.inr ⟨q2, q4⟩, q3⟩]; rfl
         · rw [aj q4, if_neg (fun z => z.1.elim q1 (fun w => q4 w.2))]; rfl
       · rw [aj q2, if_neg (fun z => z.1.elim q1 (fun w => q2 w.1))]; rfl)
   have l2 := bK (round := ef) (e := .inl (aY.foldl (fun out m => ib xs aX id gz out m.1) [], ())) aY.length (fun k => (xs, id, aX, aY, gz.1, gz.2.1, gz.2.2.1, gz.2.2.2.1, (aY.take k).foldl (fun out m => ib xs aX id gz out m.1) [], aY, ((aY.length : Nat) : Int), ((k : Nat) : Int), ())) (by
     simp only [ef, kW, ax, cond_false, List.take_length]) (fun k hk => by
     rw [qF _ _ _ hk]; have e8 := hk8 k hk; have ei := yI k hk; generalize (aY.take k).foldl (fun out m => ib xs aX id gz out m.1) [] = out at e8 ei ⊢; simp only [ef, kW, aw hk, aq, cond_true, az, List.getElem?_eq_getElem hk, Option.bind_some, q8 _ _ _ _ h, aA (show k < 4611686018427387904 by omega)]; unfold ib
     cases hb : gh xs aX aY[k].1 with
     | none => rfl
     | some b =>
       simp only [p7, Hr _ _ ei, Option.bind_some, cond_true, e8]
       by_cases q3 : (aY[k].1, ()) ∈ out
       · rw [ai q3, if_neg (fun z => z.2 q3)]; rfl
       rw [aj q3]
       by_cases q1 : aY[k].1 = id
       · rw [ai q1, if_pos ⟨.inl q1, q3⟩]; rfl
       rw [aj q1]
       by_cases q4 : 0 < gz.2.2.1
       · rw [ai q4]
         by_cases q2 : b.2.2.1 = gz.2.2.1
         · rw [Lo q2, if_pos ⟨.inr ⟨q2, by omega⟩, q3⟩]; rfl
         · rw [I4 q2, if_neg (fun z => z.1.elim q1 (fun w => q2 w.1))]; rfl
       · rw [aj q4, if_neg (fun z => z.1.elim q1 (fun w => q4 (by omega)))]; rfl)
   have l1 : aD dw (xs, id, aX, aY, [], gz.1, gz.2.1, gz.2.2.1, gz.2.2.2.1, (0 : Int), ()) = _ := l1; have l2 : aD ef (xs, id, aX, aY, gz.1, gz.2.1, gz.2.2.1, gz.2.2.2.1, [], aY, ((aY.length : Nat) : Int), (0 : Int), ()) = _ := l2; simp only [p7, Option.bind_some, Bool.not_true, cond_false, l1, l2]; exact ⟨rfl, rfl, hlen⟩
end Go.TM
set_option linter.unusedSimpArgs false
set_option linter.unusedVariables false
namespace Go.TM
open Go
def xF (l : List (Int × Unit)) (n : Nat) : Prop := ∀ j (h : j < l.length), j < n → (decide (1 ≤ l[j].1) && decide (l[j].1 ≤ 2)) = true
def nX (l : List (ByteArray × Unit)) (n : Nat) : Prop := ∀ j (h : j < l.length), j < n → ByteArray.size l[j].1 ≤ 60
def Ls (lv : List (Int × Unit)) (tx : List (ByteArray × Unit)) : Sum (List (Int × Unit) × List (ByteArray × Unit) × Unit) (Bool × Unit) → Prop
 | .inl y => y = (lv, tx, ()) ∧ xF lv (min lv.length tx.length) ∧ nX tx (min lv.length tx.length)
 | .inr b => b.1 = false ∧ ¬ (xF lv (min lv.length tx.length) ∧ nX tx (min lv.length tx.length))
theorem wF (lv : List (Int × Unit)) (tx : List (ByteArray × Unit)) (h1 : lv.length ≤ 1048576) (h2 : tx.length ≤ 1048576) : ∃ b, po lv tx = some (b, ()) ∧ (b = true ↔ tx.length ≤ 20 ∧ lv.length = tx.length ∧ xF lv lv.length ∧ nX tx tx.length) := by
 obtain ⟨e, he, hq⟩ := eH (round := gU) (x := (lv, tx, ((0 : Nat) : Int), ())) (min lv.length tx.length) (fun k x => x = (lv, tx, ((k : Nat) : Int), ()) ∧ xF lv k ∧ nX tx k) (Ls lv tx) (by
     rintro x ⟨rfl, g1, g2⟩
     refine ⟨.inl (lv, tx, ()), ?_, rfl, g1, g2⟩
     by_cases hb : min lv.length tx.length < tx.length
     · have e : min lv.length tx.length = lv.length := by omega
       simp only [gU, ln, aw hb, cond_true]; rw [e, ax]; rfl
     · have e : min lv.length tx.length = tx.length := by omega
       simp only [gU, ln]; rw [e, ax]; rfl) (by
     rintro k x hk ⟨rfl, g1, g2⟩
     have hl : k < lv.length := by omega
     have ht : k < tx.length := by omega
     simp only [gU, ln, aw hl, aw ht, aq, cond_true, az, List.getElem?_eq_getElem hl, List.getElem?_eq_getElem ht, Option.bind_some, oA, aA (show k < 4611686018427387904 by omega)]
     cases WM : (decide (1 ≤ lv[k].1) && decide (lv[k].1 ≤ 2))
     · refine .inl ⟨.inr (false, ()), rfl, rfl, fun hn => ?_⟩; have := hn.1 k hl (by omega); rw [WM] at this
       cases this
     · by_cases hs : (60 : Int) < ((ByteArray.size tx[k].1 : Nat) : Int)
       · rw [ai hs]; refine .inl ⟨.inr (false, ()), rfl, rfl, fun hn => ?_⟩; have := hn.2 k ht (by omega); omega
       · rw [aj hs]; refine .inr ⟨_, rfl, rfl, fun j hj x7 => ?_, fun j hj x7 => ?_⟩
         · by_cases e : j < k
           · exact g1 j hj e
           · have : j = k := by omega
             subst this; exact WM
         · by_cases e : j < k
           · exact g2 j hj e
           · have : j = k := by omega
             subst this; omega) ⟨rfl, fun j _ h => by omega, fun j _ h => by omega⟩
 unfold po; rw [show (0 : Int) = ((0 : Nat) : Int) from rfl, he]
 cases e with
 | inr e =>
   obtain ⟨q1, q2⟩ := hq; refine ⟨false, by rw [← q1]; rfl, ⟨(fun h => by cases h), fun ⟨w1, w2, w3, w4⟩ => ?_⟩⟩; exact absurd ⟨fun j hj hm => w3 j hj hj, fun j hj hm => w4 j hj hj⟩ q2
 | inl e =>
   obtain ⟨q1, q2, q3⟩ := hq; subst q1; simp only [iD]
   by_cases w1 : ((List.length tx : Nat) : Int) ≤ 20
   · rw [ai w1]; refine ⟨_, rfl, ?_⟩; rw [decide_eq_true_eq]
     constructor
     · intro w2; have w2 : lv.length = tx.length := by omega
       exact ⟨by omega, w2, fun j hj _ => q2 j hj (by omega), fun j hj _ => q3 j hj (by omega)⟩
     · rintro ⟨_, w2, _⟩
       rw [w2]
   · rw [aj w1]; exact ⟨false, rfl, ⟨(fun h => by cases h), fun ⟨w2, _⟩ => by omega⟩⟩
theorem Gz (tx : List (ByteArray × Unit)) (h2 : tx.length ≤ 1048576) : ∃ b, pt tx = some (b, ()) ∧ (b = true ↔ nX tx tx.length) := by
 obtain ⟨e, he, hq⟩ := eH (round := jl) (x := (tx, ((List.length tx : Nat) : Int), ((0 : Nat) : Int), ())) tx.length (fun k x => x = (tx, ((List.length tx : Nat) : Int), ((k : Nat) : Int), ()) ∧ nX tx k) (fun e => (e = .inl () ∧ nX tx tx.length) ∨ (e = .inr (false, ()) ∧ ¬ nX tx tx.length)) (by
     rintro x ⟨rfl, g2⟩
     exact ⟨.inl (), by simp only [jl, oU, ax, cond_false], .inl ⟨rfl, g2⟩⟩) (by
     rintro k x hk ⟨rfl, g2⟩
     simp only [jl, oU, aw hk, aq, cond_true, az, List.getElem?_eq_getElem hk, Option.bind_some, aA (show k < 4611686018427387904 by omega)]
     by_cases hs : (60 : Int) < ((ByteArray.size tx[k].1 : Nat) : Int)
     · rw [ai hs]; refine .inl ⟨.inr (false, ()), rfl, .inr ⟨rfl, fun hn => ?_⟩⟩; have := hn k hk hk; omega
     · rw [aj hs]; refine .inr ⟨_, rfl, rfl, fun j hj x7 => ?_⟩
       by_cases e : j < k
       · exact g2 j hj e
       · have : j = k := by omega
         subst this; omega) ⟨rfl, fun j _ h => by omega⟩
 unfold pt; rw [show (0 : Int) = ((0 : Nat) : Int) from rfl, he]; rcases hq with ⟨rfl, q⟩ | ⟨rfl, q⟩
 · exact ⟨true, rfl, ⟨fun _ => q, fun _ => rfl⟩⟩
 · exact ⟨false, rfl, ⟨(fun h => by cases h), fun h => absurd h q⟩⟩
theorem tN (c0 c1 c2 c3 c4 : Int) (xs : List (Int × Unit)) : ∃ b, eB c0 c1 c2 c3 c4 xs = some (b, ()) ∧ cK c0 c1 c2 c3 c4 xs = some (b, ()) := by
 unfold eB nE cK
 cases decide (c0 = 0)
 · exact ⟨_, rfl, rfl⟩
 cases decide (c1 = 0)
 · exact ⟨_, rfl, rfl⟩
 cases decide (c2 = 0)
 · exact ⟨_, rfl, rfl⟩
 cases decide (c3 = 0)
 · exact ⟨_, rfl, rfl⟩
 cases decide (c4 = 0)
 · exact ⟨_, rfl, rfl⟩
 cases xs with
 | nil =>
   have hl := bK (round := gu) (e := .inl ()) 0 (fun k => (([] : List (Int × Unit)), ([] : List (Int × Unit)), ((k : Nat) : Int), ())) (by
     simp only [gu, qa, List.length_nil, ax, cond_false]) (fun k hk => by omega)
   have hl : aD gu (([] : List (Int × Unit)), ([] : List (Int × Unit)), (0 : Int), ()) = _ := hl; refine ⟨true, ?_, rfl⟩; simp only [cond_true, ll, List.length_nil, decide_true, Bool.not_true, cond_false, hl, iD, Option.bind_some]
 | cons x xs =>
   have e : decide (((List.length (x :: xs) : Nat) : Int) = (0 : Int)) = false := aj (by rw [List.length_cons]; omega); have e2 : decide (((List.length (x :: xs) : Nat) : Int) = ((List.length ([] : List (Int × Unit)) : Nat) : Int)) = false := e; refine ⟨false, ?_, ?_⟩
   · simp only [cond_true, ll, e2, Bool.not_false, Option.bind_some]
   · simp only [cond_true, e]
abbrev NO : Type := Int × Int × (List (Int × Unit)) × bz × (List (Int × Unit)) × (List (ByteArray × Unit)) × Int × Int × Int × Int × Int × Int × Int × Int × Int × (List (Int × Unit)) × Unit
def Q9 (m : NO) (lv : List (Int × Unit)) : Sum NO (Bool × Unit) → Prop
 | .inl y => y = m ∧ xF lv lv.length
 | .inr b => b.1 = false ∧ ¬ xF lv lv.length
theorem yY (jQ : Int) (jz : Int) (fS : List (Int × Unit)) (gr : List (Int × Int × Int × ByteArray × Unit)) (eX : List (Int × Unit)) (gT : List (ByteArray × Unit)) (kM : Int) (kN : Int) (kO : Int) (kP : Int) (ff : Int) (fh : Int) (fi : Int) (fj : Int) (fk : Int) (dH : List (Int × Unit))
   (h0 : (List.length fS + wl cX fS) + (List.length gr + wl bn gr) + (List.length eX + wl cX eX) + (List.length gT + wl sm gT) + (List.length dH + wl cX dH) ≤ 1048576) : ∃ o0, gM jQ jz fS gr eX gT kM kN kO kP ff fh fi fj fk dH = some (o0, ()) ∧ kV jQ jz fS gr eX gT kM kN kO kP ff fh fi fj fk dH = some (o0, ()) := by
 obtain ⟨b1, r1, r2, _⟩ := vF jz fS (by omega); obtain ⟨b2, c1, c2⟩ := pz jQ fS (by omega); obtain ⟨b3, i1, i2⟩ := wE gr (by omega); obtain ⟨b4, t1, t2⟩ := wF eX gT (by omega) (by omega); obtain ⟨b5, s1, s2⟩ := Gz gT (by omega); obtain ⟨n, a1, a2, _⟩ := A4 gr (by omega); obtain ⟨b6, z1, z2⟩ := tN ff fh fi fj fk dH; obtain ⟨b7, k1, k2, _⟩ := wD ff fh fi fj fk dH (by omega); obtain ⟨e, he, hq⟩ := eH (round := jn) (x := (jQ, jz, fS, gr, eX, gT, kM, kN, kO, kP, ff, fh, fi, fj, fk, dH, eX, ((List.length eX : Nat) : Int), ((0 : Nat) : Int), ())) eX.length
   (fun k x => x = (jQ, jz, fS, gr, eX, gT, kM, kN, kO, kP, ff, fh, fi, fj, fk, dH, eX, ((List.length eX : Nat) : Int), ((k : Nat) : Int), ()) ∧ xF eX k)
   (Q9 (jQ, jz, fS, gr, eX, gT, kM, kN, kO, kP, ff, fh, fi, fj, fk, dH, ()) eX) (by
     rintro x ⟨rfl, g⟩
     exact ⟨.inl _, by simp only [jn, qZ, ax, cond_false], rfl, g⟩) (by
     rintro k x hk ⟨rfl, g⟩
     simp only [jn, qZ, aw hk, aq, cond_true, az, List.getElem?_eq_getElem hk, Option.bind_some, A3, aA (show k < 4611686018427387904 by omega)]
     cases WM : (decide (1 ≤ eX[k].1) && decide (eX[k].1 ≤ 2))
     · refine .inl ⟨.inr (false, ()), rfl, rfl, fun hn => ?_⟩; have := hn k hk hk; rw [WM] at this
       cases this
     · refine .inr ⟨_, rfl, rfl, fun j hj x7 => ?_⟩
       by_cases e : j < k
       · exact g j hj e
       · have : j = k := by omega
         subst this; exact WM) ⟨rfl, fun j _ h => by omega⟩
 have he : aD jn (jQ, jz, fS, gr, eX, gT, kM, kN, kO, kP, ff, fh, fi, fj, fk, dH, eX, ((List.length eX : Nat) : Int), (0 : Int), ()) = some e := he; unfold gM kV; simp only [r1, r2, c1, c2, i1, i2, t1, s1, Option.bind_some, he]
 cases b1
 · cases b2
   · exact ⟨_, rfl, rfl⟩
   · exact ⟨_, rfl, rfl⟩
 cases b2
 · exact ⟨_, rfl, rfl⟩
 cases b3
 · exact ⟨_, rfl, rfl⟩
 simp only [Bool.not_true, cond_false]
 by_cases w1 : (20 : Int) < ((List.length gT : Nat) : Int)
 · have : b4 = false := by
     cases b4
     · rfl
     · have := (t2.1 rfl).1; omega
   subst this; rw [ai w1]; exact ⟨_, rfl, rfl⟩
 rw [aj w1]
 cases b5
 · have : b4 = false := by
     cases b4
     · rfl
     · have := s2.2 (t2.1 rfl).2.2.2; cases this
   subst this; exact ⟨_, rfl, rfl⟩
 by_cases w2 : ((List.length eX : Nat) : Int) = ((List.length gT : Nat) : Int)
 case neg =>
   have : b4 = false := by
     cases b4
     · rfl
     · have := (t2.1 rfl).2.1; omega
   subst this; rw [aj w2]; exact ⟨_, rfl, rfl⟩
 rw [ai w2]
 cases e with
 | inr e =>
   obtain ⟨q1, q2⟩ := hq; have : b4 = false := by
     cases b4
     · rfl
     · exact absurd (t2.1 rfl).2.2.1 q2
   subst this; refine ⟨false, rfl, ?_⟩; show some (e.1, ()) = _; rw [q1]
 | inl e =>
   obtain ⟨q1, q2⟩ := hq; subst q1; have : b4 = true := t2.2 ⟨by omega, by omega, q2, s2.1 rfl⟩; subst this; simp only [Bool.not_true, cond_false, iD, a1, a2, z1, z2, k1, k2, oA, sn, Option.bind_some]
   cases (decide (0 ≤ kM) && decide (kM ≤ 1000000000))
   · exact ⟨_, rfl, rfl⟩
   cases (decide (0 ≤ kN) && decide (kN ≤ 60))
   · exact ⟨_, rfl, rfl⟩
   cases (decide (0 ≤ kO) && decide (kO ≤ ((n : Nat) : Int)))
   · exact ⟨_, rfl, rfl⟩
   cases (decide (0 ≤ kP) && decide (kP ≤ ((n : Nat) : Int)))
   · exact ⟨_, rfl, rfl⟩
   cases b6
   · exact ⟨_, rfl, rfl⟩
   · exact ⟨_, rfl, rfl⟩
end Go.TM
set_option linter.unusedSimpArgs false
set_option linter.unusedVariables false
namespace Go.TM
open Go
def vh (r : jt) : Prop := (1 ≤ r.1 ∧ r.1 ≤ 60) ∧ (1 ≤ r.2.1 ∧ r.2.1 ≤ 5) ∧ (1 ≤ r.2.2.1 ∧ r.2.2.1 ≤ 2) ∧ ByteArray.size r.2.2.2.1 ≤ 60
def gp (xs : bz) (n : Nat) : Prop := ∀ k (h : k < xs.length), k < n → vh xs[k] ∧ ∀ h0 : 0 < k, xs[k - 1].1 < xs[k].1
theorem E2 (a b c : Int) (s : ByteArray) : ∃ x, iG a b c s = some (x, ()) ∧ kT a b c s = some (x, ()) ∧ (x = true ↔ vh (a, b, c, s, ())) := by
 have hi : ∀ {p q r : Prop} [Decidable p] [Decidable q], (decide p && decide q) = false → ¬ ((p ∧ q) ∧ r) := by
   intro p q r _ _ h ⟨h1, _⟩; rw [decide_eq_true h1.1, decide_eq_true h1.2] at h
   cases h
 unfold iG kT vh; simp only [oA, sn, sS, A3, Option.bind_some]
 cases h1 : (decide (1 ≤ a) && decide (a ≤ 60))
 · exact ⟨false, rfl, rfl, ⟨fun h => (by cases h), fun h => absurd h (hi h1)⟩⟩
 rw [Bool.and_eq_true, decide_eq_true_eq, decide_eq_true_eq] at h1
 cases h2 : (decide (1 ≤ b) && decide (b ≤ 5))
 · exact ⟨false, rfl, rfl, ⟨fun h => (by cases h), fun h => absurd h.2 (hi h2)⟩⟩
 rw [Bool.and_eq_true, decide_eq_true_eq, decide_eq_true_eq] at h2
 cases h3 : (decide (1 ≤ c) && decide (c ≤ 2))
 · exact ⟨false, rfl, rfl, ⟨fun h => (by cases h), fun h => absurd h.2.2 (hi h3)⟩⟩
 rw [Bool.and_eq_true, decide_eq_true_eq, decide_eq_true_eq] at h3; refine ⟨_, rfl, rfl, ?_⟩; rw [decide_eq_true_eq]; exact ⟨fun h => ⟨h1, h2, h3, by omega⟩, fun h => by have := h.2.2.2; omega⟩
theorem Co (xs : bz) (h : xs.length ≤ 1048576) : ∃ b, eM xs = some (b, ()) ∧ iI xs = some (b, ()) ∧ (b = true ↔ gp xs xs.length) := by
 obtain ⟨b, h1, h2⟩ := wE xs h; refine ⟨b, h1, h2, ?_⟩; obtain ⟨e, he, hq⟩ := eH (round := dQ) (x := (xs, ((0 : Nat) : Int), ())) xs.length (fun k x => x = (xs, ((k : Nat) : Int), ()) ∧ gp xs k) (fun e => (e = .inl () ∧ gp xs xs.length) ∨ (e = .inr (false, ()) ∧ ¬ gp xs xs.length)) (by
     rintro x ⟨rfl, g⟩
     exact ⟨.inl (), by simp only [dQ, jR, ax, cond_false], .inl ⟨rfl, g⟩⟩) (by
     rintro k x hk ⟨rfl, g⟩
     obtain ⟨b, r1, _, r3⟩ := E2 xs[k].1 xs[k].2.1 xs[k].2.2.1 xs[k].2.2.2.1; have r3 : b = true ↔ vh xs[k] := r3; simp only [dQ, jR, aw hk, aq, cond_true, az, List.getElem?_eq_getElem hk, Option.bind_some, r1, aA (show k < 4611686018427387904 by omega)]; have more : vh xs[k] → (∀ h0 : 0 < k, xs[k - 1].1 < xs[k].1) → gp xs (k + 1) := fun q1 q2 j hj x7 => by
       by_cases e : j < k
       · exact g j hj e
       · have : j = k := by omega
         subst this; exact ⟨q1, q2⟩
     cases b
     · exact .inl ⟨.inr (false, ()), rfl, .inr ⟨rfl, fun hn => absurd (r3.2 (hn k hk hk).1) (by simp)⟩⟩
     · have q1 := r3.1 rfl
       by_cases h0 : 0 < k
       · have hp : k - 1 < xs.length := by omega
         rw [qE h0 (by omega)]; simp only [ai (show (0 : Int) < ((k : Nat) : Int) by omega), Bool.not_true, cond_false, cond_true, aq, az, List.getElem?_eq_getElem hp, Option.bind_some]
         by_cases hs : xs[k].1 ≤ xs[k - 1].1
         · rw [ai hs]; refine .inl ⟨.inr (false, ()), rfl, .inr ⟨rfl, fun hn => ?_⟩⟩; have := (hn k hk hk).2 h0; omega
         · rw [aj hs]; exact .inr ⟨_, rfl, rfl, more q1 (fun _ => by omega)⟩
       · have : k = 0 := by omega
         subst this; simp only [aj (show ¬ (0 : Int) < ((0 : Nat) : Int) by omega), Bool.not_true, cond_false]; exact .inr ⟨_, rfl, rfl, more q1 (fun h => absurd h (by omega))⟩) ⟨rfl, fun j _ h => by omega⟩
 have he : aD dQ (xs, (0 : Int), ()) = some e := he; unfold eM at h1; rw [he] at h1; rcases hq with ⟨rfl, g⟩ | ⟨rfl, g⟩
 · injection h1 with h1; injection h1 with h1 _; exact ⟨fun _ => g, fun _ => h1.symm⟩
 · injection h1 with h1; injection h1 with h1 _; subst h1; exact ⟨fun h => (by cases h), fun h => absurd h g⟩
theorem Lt {α : Type} (f : α → Nat) (c : Nat) : (xs : List α) → (∀ x ∈ xs, f x ≤ c) → wl f xs ≤ c * xs.length
 | [], _ => Nat.zero_le _
 | x :: xs, h => by
   rw [nr, List.length_cons, Nat.mul_succ]; have := Lt f c xs (fun y hy => h y (List.mem_cons_of_mem _ hy)); have := h x List.mem_cons_self; omega
theorem Cp (xs : bz) (h : gp xs xs.length) : ∀ k (hk : k < xs.length), ((k + 1 : Nat) : Int) ≤ xs[k].1
 | 0, hk => by have := (h 0 hk hk).1.1.1; omega
 | k + 1, hk => by
   have h1 := Cp xs h k (by omega); have h2 := (h (k + 1) hk hk).2 (by omega); have h2 : xs[k].1 < xs[k + 1].1 := h2; omega
theorem rK (xs : bz) (h : gp xs xs.length) : xs.length ≤ 60 ∧ wl bn xs ≤ 3600 := by
 have h1 : xs.length ≤ 60 := by
   by_cases h0 : 0 < xs.length
   · have := Cp xs h (xs.length - 1) (by omega); have := (h (xs.length - 1) (by omega) (by omega)).1.1.2; omega
   · omega
 refine ⟨h1, Nat.le_trans (Lt bn 60 xs fun x hx => ?_) (by omega)⟩; obtain ⟨k, hk, rfl⟩ := List.mem_iff_getElem.1 hx; exact (h k hk hk).1.2.2.2
theorem yZ (xs : List (ByteArray × Unit)) (h : nX xs xs.length) : wl sm xs ≤ 60 * xs.length := by
 refine Lt sm 60 xs fun x hx => ?_
 obtain ⟨k, hk, rfl⟩ := List.mem_iff_getElem.1 hx; exact h k hk hk
structure Lu (c0 c1 : Int) (c2 : List (Int × Unit)) (c3 : bz) (c4 : List (Int × Unit)) (c5 : List (ByteArray × Unit)) (c6 c7 c8 c9 : Int) (WN : List (Int × Unit)) : Prop where
 ring : 1 ≤ c2.length ∧ c2.length ≤ 5
 items : gp c3 c3.length
 texts : c5.length ≤ 20 ∧ c4.length = c5.length
 lev : xF c4 c4.length
 short : nX c5 c5.length
 round : 0 ≤ c6 ∧ c6 ≤ 1000000000
 seen : 0 ≤ c7 ∧ c7 ≤ 60
 aru : ∃ n : Nat, kR c3 = some (((n : Nat) : Int), ()) ∧ mH c3 = some (((n : Nat) : Int), ()) ∧ Hq c3 n ∧ (0 ≤ c8 ∧ c8 ≤ ((n : Nat) : Int)) ∧ 0 ≤ c9 ∧ c9 ≤ ((n : Nat) : Int)
 WO : WN.length ≤ 20
theorem Jc {c0 c1 c2 c3 c4 : Int} {xs : List (Int × Unit)} (h : cK c0 c1 c2 c3 c4 xs = some (true, ())) : xs.length = 0 := by
 unfold cK at h
 by_cases h0 : ((List.length xs : Nat) : Int) = 0
 · omega
 · exfalso
   rw [aj h0] at h
   revert h
   cases decide (c0 = (0 : Int)) <;> cases decide (c1 = (0 : Int)) <;> cases decide (c2 = (0 : Int)) <;> cases decide (c3 = (0 : Int)) <;> cases decide (c4 = (0 : Int)) <;> intro h <;> cases h
theorem ju {p q : Prop} [Decidable p] [Decidable q] (h : (decide p && decide q) = true) : p ∧ q := by
 rw [Bool.and_eq_true, decide_eq_true_eq, decide_eq_true_eq] at h; exact h
theorem Lv (jQ : Int) (jz : Int) (fS : List (Int × Unit)) (gr : bz) (eX : List (Int × Unit)) (gT : List (ByteArray × Unit)) (kM : Int) (kN : Int) (kO : Int) (kP : Int) (ff : Int) (fh : Int) (fi : Int) (fj : Int) (fk : Int) (dH : List (Int × Unit))
   (h0 : (List.length fS + wl cX fS) + (List.length gr + wl bn gr) + (List.length eX + wl cX eX) + (List.length gT + wl sm gT) + (List.length dH + wl cX dH) ≤ 1048576) : ∃ b, gM jQ jz fS gr eX gT kM kN kO kP ff fh fi fj fk dH = some (b, ()) ∧ kV jQ jz fS gr eX gT kM kN kO kP ff fh fi fj fk dH = some (b, ()) ∧
     (b = true → Lu jQ jz fS gr eX gT kM kN kO kP dH) := by
 obtain ⟨b, k1, k2⟩ := yY jQ jz fS gr eX gT kM kN kO kP ff fh fi fj fk dH h0; refine ⟨b, k1, k2, fun hb => ?_⟩; subst hb; obtain ⟨b1, r1, _, r3⟩ := vF jz fS (by omega); obtain ⟨b2, c1, _⟩ := pz jQ fS (by omega); obtain ⟨b3, i1, _, i3⟩ := Co gr (by omega); obtain ⟨b4, t1, t2⟩ := wF eX gT (by omega) (by omega); obtain ⟨n, a1, a2, a3⟩ := A4 gr (by omega); obtain ⟨b6, z1, z2⟩ := tN ff fh fi fj fk dH; obtain ⟨b7, w1, _, w3⟩ := wD ff fh fi fj fk dH (by omega); unfold gM at k1; simp only [r1, c1, i1, t1, a1, z1, w1, oA, Option.bind_some] at k1
 cases b1
 · cases k1
 cases b2
 · cases k1
 cases b3
 · cases k1
 cases b4
 · cases k1
 simp only [Bool.not_true, cond_false] at k1
 cases e5 : (decide ((0 : Int) ≤ kM) && decide (kM ≤ 1000000000))
 · rw [e5] at k1; cases k1
 cases e6 : (decide ((0 : Int) ≤ kN) && decide (kN ≤ 60))
 · rw [e5, e6] at k1; cases k1
 cases e8 : (decide ((0 : Int) ≤ kO) && decide (kO ≤ ((n : Nat) : Int)))
 · rw [e5, e6, e8] at k1; cases k1
 cases e9 : (decide ((0 : Int) ≤ kP) && decide (kP ≤ ((n : Nat) : Int)))
 · rw [e5, e6, e8, e9] at k1; cases k1
 rw [e5, e6, e8, e9] at k1; obtain ⟨t3, t4, t5, t6⟩ := t2.1 rfl; refine ⟨r3 rfl, i3.1 rfl, ⟨t3, t4⟩, t5, t6, ju e5, ju e6, ⟨n, a1, a2, a3, ju e8, ju e9⟩, ?_⟩
 cases b6
 · cases b7
   · cases k1
   · exact (w3 rfl).2.2.2.2.1
 · have := Jc z2; omega
theorem Lu.small {c0 c1 : Int} {c2 : List (Int × Unit)} {c3 : bz} {c4 : List (Int × Unit)} {c5 : List (ByteArray × Unit)} {c6 c7 c8 c9 : Int} {WN : List (Int × Unit)} (h : Lu c0 c1 c2 c3 c4 c5 c6 c7 c8 c9 WN) :
   (List.length c2 + wl cX c2) + (List.length c3 + wl bn c3) + (List.length c4 + wl cX c4) + (List.length c5 + wl sm c5) + (List.length WN + wl cX WN) ≤ 5000 := by
 have h1 := rK c3 h.items; have h2 := yZ c5 h.short; have h3 := h.texts; have h4 := h.ring; have h5 := h.WO; rw [qf cX (fun _ => rfl), qf cX (fun _ => rfl), qf cX (fun _ => rfl)]; omega
theorem za (xs : bz) (h : xs.length ≤ 1048576) : eN xs = some (xs, ()) := by
 unfold eN; rw [bh (show (0 + xs.length) * 40 ≤ lim by unfold lim; omega)]; rfl
theorem Dq (xs : List (ByteArray × Unit)) (h : xs.length ≤ 1048576) : jb xs = some (xs, ()) := by
 unfold jb; rw [bh (show (0 + xs.length) * 16 ≤ lim by unfold lim; omega)]; rfl
theorem zb (jQ : Int) (jz : Int) (fS : List (Int × Unit)) (gr : bz) (eX : List (Int × Unit)) (gT : List (ByteArray × Unit)) (kM : Int) (kN : Int) (kO : Int) (kP : Int) (ff : Int) (fh : Int) (fi : Int) (fj : Int) (fk : Int) (dH : List (Int × Unit))
   (h0 : (List.length fS + wl cX fS) + (List.length gr + wl bn gr) + (List.length eX + wl cX eX) + (List.length gT + wl sm gT) + (List.length dH + wl cX dH) ≤ 1048576) :
   lk jQ jz fS gr eX gT kM kN kO kP ff fh fi fj fk dH = some (jQ, jz, fS, gr, eX, gT, kM, kN, kO, kP, ff, fh, fi, fj, fk, dH, ()) ∧
   j4 jQ jz fS gr eX gT kM kN kO kP ff fh fi fj fk dH = some (jQ, jz, fS, gr, eX, gT, kM, kN, kO, kP, ff, fh, fi, fj, fk, dH, ()) := by
 obtain ⟨t1, t2⟩ := Dm ff fh fi fj fk dH (by omega)
 constructor
 · unfold lk; rw [bh (show (0 + fS.length) * 8 ≤ lim by unfold lim; omega), bh (show (0 + gr.length) * 40 ≤ lim by unfold lim; omega), bh (show (0 + eX.length) * 8 ≤ lim by unfold lim; omega), bh (show (0 + gT.length) * 16 ≤ lim by unfold lim; omega), t1]; rfl
 · unfold j4 cj; rw [mX fS (by omega), za gr (by omega), mX eX (by omega), Dq gT (by omega), t2]; rfl
end Go.TM
set_option linter.unusedSimpArgs false
set_option linter.unusedVariables false
namespace Go.TM
open Go
abbrev lR : Type := List (Int × Unit)
abbrev Jd : Type := Int × Int × Int × Int × Int × lR × Unit
abbrev Ds : Type := Int × Int × lR × bz × lR × (List (ByteArray × Unit)) × Int × Int × Int × Int × Int × Int × Int × Int × Int × lR × Unit
abbrev zx : Type := Int × Int × lR × Int × Int × Int × ByteArray × lR × Unit
abbrev na : Type := Int × Bool × Int × Int × lR × bz × lR × (List (ByteArray × Unit)) × Int × Int × Int × Int × Int × Int × Int × Int × Int × lR × Int × Int × Int × lR × (List fx) × (List zx) × Unit
def Lw (xs : lR) (n : Nat) : Prop := ∀ k (h : k < xs.length), k < n → (1 ≤ xs[k].1 ∧ xs[k].1 ≤ 5) ∧ ∀ h0 : 0 < k, xs[k - 1].1 < xs[k].1
def xG (c : Int) (xs : lR) : Prop := (1 ≤ c ∧ c ≤ 9) ∧ (1 ≤ xs.length ∧ xs.length ≤ 5) ∧ Lw xs xs.length
theorem Lx (c : Int) (xs : lR) (h : xs.length ≤ 1048576) : ∃ b, ee c xs = some (b, ()) ∧ iJ c xs = some (b, ()) ∧ (b = true ↔ xG c xs) := by
 obtain ⟨b, h1, h2, _⟩ := vF c xs h; refine ⟨b, h1, h2, ?_⟩; obtain ⟨e, he, hq⟩ := eH (round := eK) (x := (c, xs, ((0 : Nat) : Int), ())) xs.length (fun k x => x = (c, xs, ((k : Nat) : Int), ()) ∧ Lw xs k) (fun e => (e = .inl () ∧ Lw xs xs.length) ∨ (e = .inr (false, ()) ∧ ¬ Lw xs xs.length)) (by
     rintro x ⟨rfl, g⟩
     exact ⟨.inl (), by simp only [eK, kQ, ax, cond_false], .inl ⟨rfl, g⟩⟩) (by
     rintro k x hk ⟨rfl, g⟩
     simp only [eK, kQ, aw hk, aq, cond_true, az, List.getElem?_eq_getElem hk, Option.bind_some, oA, aA (show k < 4611686018427387904 by omega)]; have more : (1 ≤ xs[k].1 ∧ xs[k].1 ≤ 5) → (∀ h0 : 0 < k, xs[k - 1].1 < xs[k].1) → Lw xs (k + 1) := fun q1 q2 j hj x7 => by
       by_cases e : j < k
       · exact g j hj e
       · have : j = k := by omega
         subst this; exact ⟨q1, q2⟩
     cases hb : (decide (1 ≤ xs[k].1) && decide (xs[k].1 ≤ 5))
     · exact .inl ⟨.inr (false, ()), rfl, .inr ⟨rfl, fun hn => by
         have := (hn k hk hk).1; rw [ai this.1, ai this.2] at hb
         cases hb⟩⟩
     · have q1 := ju hb
       by_cases h0 : 0 < k
       · have hp : k - 1 < xs.length := by omega
         rw [qE h0 (by omega)]; simp only [ai (show (0 : Int) < ((k : Nat) : Int) by omega), Bool.not_true, cond_false, cond_true, aq, az, List.getElem?_eq_getElem hp, Option.bind_some]
         by_cases hs : xs[k].1 ≤ xs[k - 1].1
         · rw [ai hs]; refine .inl ⟨.inr (false, ()), rfl, .inr ⟨rfl, fun hn => ?_⟩⟩; have := (hn k hk hk).2 h0; omega
         · rw [aj hs]; exact .inr ⟨_, rfl, rfl, more q1 (fun _ => by omega)⟩
       · have : k = 0 := by omega
         subst this; simp only [aj (show ¬ (0 : Int) < ((0 : Nat) : Int) by omega), Bool.not_true, cond_false]; exact .inr ⟨_, rfl, rfl, more q1 (fun h => absurd h (by omega))⟩) ⟨rfl, fun j _ h => by omega⟩
 have he : aD eK (c, xs, (0 : Int), ()) = some e := he; unfold ee at h1; simp only [oA, Option.bind_some, he] at h1; unfold xG
 cases a1 : (decide (1 ≤ c) && decide (c ≤ 9))
 · rw [a1] at h1; injection h1 with h1; injection h1 with h1 _; subst h1; refine ⟨fun h => (by cases h), fun h => ?_⟩; rw [ai h.1.1, ai h.1.2] at a1
   cases a1
 cases a2 : (decide (1 ≤ ((List.length xs : Nat) : Int)) && decide (((List.length xs : Nat) : Int) ≤ 5))
 · rw [a1, a2] at h1; injection h1 with h1; injection h1 with h1 _; subst h1; refine ⟨fun h => (by cases h), fun h => ?_⟩; rw [ai (show (1 : Int) ≤ ((List.length xs : Nat) : Int) by omega), ai (show ((List.length xs : Nat) : Int) ≤ 5 by omega)] at a2
   cases a2
 rw [a1, a2] at h1; have a1 := ju a1; have a2 := ju a2; rcases hq with ⟨rfl, g⟩ | ⟨rfl, g⟩
 · injection h1 with h1; injection h1 with h1 _; exact ⟨fun _ => ⟨a1, by omega, g⟩, fun _ => h1.symm⟩
 · injection h1 with h1; injection h1 with h1 _; subst h1; exact ⟨fun h => (by cases h), fun h => absurd h.2.2 g⟩
noncomputable def zc (c : Int) (xs : lR) : Bool := match ee c xs with | some x => x.1 | none => false
theorem Dt (c : Int) (xs : lR) (h : xs.length ≤ 1048576) : ee c xs = some (zc c xs, ()) ∧ iJ c xs = some (zc c xs, ()) ∧ (zc c xs = true ↔ xG c xs) := by
 obtain ⟨b, h1, h2, h3⟩ := Lx c xs h; have : zc c xs = b := by unfold zc; rw [h1]
 rw [this]; exact ⟨h1, h2, h3⟩
noncomputable def pb (xs : bz) : Bool := match eM xs with | some x => x.1 | none => false
theorem q9 (xs : bz) (h : xs.length ≤ 1048576) : eM xs = some (pb xs, ()) ∧ iI xs = some (pb xs, ()) ∧ (pb xs = true ↔ gp xs xs.length) := by
 obtain ⟨b, h1, h2, h3⟩ := Co xs h; have : pb xs = b := by unfold pb; rw [h1]
 rw [this]; exact ⟨h1, h2, h3⟩
noncomputable def A7 (r : jt) : Bool := match iG r.1 r.2.1 r.2.2.1 r.2.2.2.1 with | some x => x.1 | none => false
theorem Hs (r : jt) : iG r.1 r.2.1 r.2.2.1 r.2.2.2.1 = some (A7 r, ()) ∧ kT r.1 r.2.1 r.2.2.1 r.2.2.2.1 = some (A7 r, ()) ∧ (A7 r = true ↔ vh r) := by
 obtain ⟨b, h1, h2, h3⟩ := E2 r.1 r.2.1 r.2.2.1 r.2.2.2.1; have : A7 r = b := by unfold A7; rw [h1]
 rw [this]; exact ⟨h1, h2, h3⟩
def Du (b : fx) : Prop := (1 ≤ b.1 ∧ b.1 ≤ 5) ∧ (1 ≤ b.2.1 ∧ b.2.1 ≤ 9) ∧ (0 ≤ b.2.2.1 ∧ b.2.2.1 ≤ b.2.1 - 1) ∧ gp b.2.2.2.1 b.2.2.2.1.length ∧ (0 < b.2.2.1 ∨ b.2.2.2.1.length = 0)
theorem nY {p q : Prop} [Decidable p] [Decidable q] : (decide p && decide q) = true ↔ p ∧ q := by
 rw [Bool.and_eq_true, decide_eq_true_eq, decide_eq_true_eq]
theorem M3 (b : fx) (h : b.2.2.2.1.length ≤ 1048576) : nW b = true ↔ Du b := by
 obtain ⟨h1, _⟩ := oZ b h; obtain ⟨i1, _, i3⟩ := q9 b.2.2.2.1 h; unfold fD at h1; simp only [oA, Option.bind_some, i1] at h1; unfold Du; rw [← i3]
 cases a1 : (decide (1 ≤ b.1) && decide (b.1 ≤ 5))
 · rw [a1] at h1; injection h1 with h1; injection h1 with h1 _; rw [← h1]; exact ⟨fun h => (by cases h), fun h => by rw [nY.2 h.1] at a1; cases a1⟩
 cases a2 : (decide (1 ≤ b.2.1) && decide (b.2.1 ≤ 9))
 · rw [a1, a2] at h1; injection h1 with h1; injection h1 with h1 _; rw [← h1]; exact ⟨fun h => (by cases h), fun h => by rw [nY.2 h.2.1] at a2; cases a2⟩
 have c2 := ju a2; rw [ej (by omega) (by omega)] at h1
 cases a3 : (decide (0 ≤ b.2.2.1) && decide (b.2.2.1 ≤ b.2.1 - 1))
 · rw [a1, a2, a3] at h1; injection h1 with h1; injection h1 with h1 _; rw [← h1]; exact ⟨fun h => (by cases h), fun h => by rw [nY.2 h.2.2.1] at a3; cases a3⟩
 cases a4 : pb b.2.2.2.1
 · rw [a1, a2, a3, a4] at h1; injection h1 with h1; injection h1 with h1 _; rw [← h1]; exact ⟨fun h => (by cases h), fun h => by cases h.2.2.2.1⟩
 rw [a1, a2, a3, a4] at h1
 by_cases a5 : 0 < b.2.2.1
 · rw [ai a5] at h1; injection h1 with h1; injection h1 with h1 _; rw [← h1]; exact ⟨fun _ => ⟨ju a1, c2, ju a3, rfl, .inl a5⟩, fun _ => rfl⟩
 · rw [aj a5] at h1; injection h1 with h1; injection h1 with h1 _; rw [← h1]; refine ⟨fun h => ⟨ju a1, c2, ju a3, rfl, .inr ?_⟩, fun h => ?_⟩
   · have := of_decide_eq_true h; omega
   · exact decide_eq_true (by rcases h.2.2.2.2 with q | q <;> omega)
theorem Je (c0 c1 c2 c3 c4 : Int) (xs : lR) : ∃ b, eB c0 c1 c2 c3 c4 xs = some (b, ()) ∧ cK c0 c1 c2 c3 c4 xs = some (b, ()) ∧ (b = true ↔ c0 = 0 ∧ c1 = 0 ∧ c2 = 0 ∧ c3 = 0 ∧ c4 = 0 ∧ xs = []) := by
 obtain ⟨b, h1, h2⟩ := tN c0 c1 c2 c3 c4 xs; refine ⟨b, h1, h2, ?_⟩; unfold cK at h2; have hl : ((List.length xs : Nat) : Int) = 0 ↔ xs = [] := by rw [← List.length_eq_zero_iff]; omega
 by_cases e0 : c0 = 0
 case neg => simp [aj e0] at h2; subst h2; simp [e0]
 by_cases e1 : c1 = 0
 case neg => simp [ai e0, aj e1] at h2; subst h2; simp [e1]
 by_cases e2 : c2 = 0
 case neg => simp [ai e0, ai e1, aj e2] at h2; subst h2; simp [e2]
 by_cases e3 : c3 = 0
 case neg => simp [ai e0, ai e1, ai e2, aj e3] at h2; subst h2; simp [e3]
 by_cases e4 : c4 = 0
 case neg => simp [ai e0, ai e1, ai e2, ai e3, aj e4] at h2; subst h2; simp [e4]
 by_cases e5 : ((List.length xs : Nat) : Int) = 0
 · rw [ai e0, ai e1, ai e2, ai e3, ai e4, ai e5] at h2; injection h2 with h2; injection h2 with h2 _; exact ⟨fun _ => ⟨e0, e1, e2, e3, e4, hl.1 e5⟩, fun _ => h2.symm⟩
 · rw [ai e0, ai e1, ai e2, ai e3, ai e4, aj e5] at h2; injection h2 with h2; injection h2 with h2 _; subst h2; exact ⟨fun h => (by cases h), fun h => absurd (hl.2 h.2.2.2.2.2) e5⟩
def Blank (t : Jd) : Prop := t.1 = 0 ∧ t.2.1 = 0 ∧ t.2.2.1 = 0 ∧ t.2.2.2.1 = 0 ∧ t.2.2.2.2.1 = 0 ∧ t.2.2.2.2.2.1 = []
noncomputable def tO (t : Jd) : Bool := match eB t.1 t.2.1 t.2.2.1 t.2.2.2.1 t.2.2.2.2.1 t.2.2.2.2.2.1 with | some x => x.1 | none => false
theorem vi (t : Jd) : eB t.1 t.2.1 t.2.2.1 t.2.2.2.1 t.2.2.2.2.1 t.2.2.2.2.2.1 = some (tO t, ()) ∧ cK t.1 t.2.1 t.2.2.1 t.2.2.2.1 t.2.2.2.2.1 t.2.2.2.2.2.1 = some (tO t, ()) ∧ (tO t = true ↔ Blank t) := by
 obtain ⟨b, h1, h2, h3⟩ := Je t.1 t.2.1 t.2.2.1 t.2.2.2.1 t.2.2.2.2.1 t.2.2.2.2.2.1; have : tO t = b := by unfold tO; rw [h1]
 rw [this]; exact ⟨h1, h2, h3⟩
def Ra (t : Jd) : Prop := WK t.1 t.2.1 t.2.2.1 t.2.2.2.1 t.2.2.2.2.1 t.2.2.2.2.2.1
noncomputable def GA (t : Jd) : Bool := match gH t.1 t.2.1 t.2.2.1 t.2.2.2.1 t.2.2.2.2.1 t.2.2.2.2.2.1 with | some x => x.1 | none => false
theorem Ly (t : Jd) (h : t.2.2.2.2.2.1.length ≤ 1048576) : gH t.1 t.2.1 t.2.2.1 t.2.2.2.1 t.2.2.2.2.1 t.2.2.2.2.2.1 = some (GA t, ()) ∧ lu t.1 t.2.1 t.2.2.1 t.2.2.2.1 t.2.2.2.2.1 t.2.2.2.2.2.1 = some (GA t, ()) ∧ (GA t = true ↔ Ra t) := by
 obtain ⟨b, h1, h2, h3⟩ := Ja t.1 t.2.1 t.2.2.1 t.2.2.2.1 t.2.2.2.2.1 t.2.2.2.2.2.1 h; have : GA t = b := by unfold GA; rw [h1]
 rw [this]; exact ⟨h1, h2, h3⟩
noncomputable def lF (xs : bz) : Nat := match kR xs with | some x => x.1.toNat | none => 0
theorem GB (xs : bz) (h : xs.length ≤ 1048576) : kR xs = some (((lF xs : Nat) : Int), ()) ∧ mH xs = some (((lF xs : Nat) : Int), ()) ∧ Hq xs (lF xs) := by
 obtain ⟨n, h1, h2, h3⟩ := A4 xs h; have : lF xs = n := by unfold lF; rw [h1]; rfl
 rw [this]; exact ⟨h1, h2, h3⟩
structure Jf (m : Ds) : Prop where
 ring : xG m.2.1 m.2.2.1
 mem : (m.1, ()) ∈ m.2.2.1
 items : gp m.2.2.2.1 m.2.2.2.1.length
 texts : m.2.2.2.2.2.1.length ≤ 20 ∧ m.2.2.2.2.1.length = m.2.2.2.2.2.1.length
 lev : xF m.2.2.2.2.1 m.2.2.2.2.1.length
 short : nX m.2.2.2.2.2.1 m.2.2.2.2.2.1.length
 round : 0 ≤ m.2.2.2.2.2.2.1 ∧ m.2.2.2.2.2.2.1 ≤ 1000000000
 seen : 0 ≤ m.2.2.2.2.2.2.2.1 ∧ m.2.2.2.2.2.2.2.1 ≤ 60
 line : 0 ≤ m.2.2.2.2.2.2.2.2.1 ∧ m.2.2.2.2.2.2.2.2.1 ≤ ((lF m.2.2.2.1 : Nat) : Int)
 heard : 0 ≤ m.2.2.2.2.2.2.2.2.2.1 ∧ m.2.2.2.2.2.2.2.2.2.1 ≤ ((lF m.2.2.2.1 : Nat) : Int)
 last : Blank (m.2.2.2.2.2.2.2.2.2.2.1, m.2.2.2.2.2.2.2.2.2.2.2.1, m.2.2.2.2.2.2.2.2.2.2.2.2.1, m.2.2.2.2.2.2.2.2.2.2.2.2.2.1, m.2.2.2.2.2.2.2.2.2.2.2.2.2.2.1, m.2.2.2.2.2.2.2.2.2.2.2.2.2.2.2.1, ()) ∨ Ra (m.2.2.2.2.2.2.2.2.2.2.1, m.2.2.2.2.2.2.2.2.2.2.2.1, m.2.2.2.2.2.2.2.2.2.2.2.2.1, m.2.2.2.2.2.2.2.2.2.2.2.2.2.1, m.2.2.2.2.2.2.2.2.2.2.2.2.2.2.1, m.2.2.2.2.2.2.2.2.2.2.2.2.2.2.2.1, ())
def xH (m : Ds) : Nat := (List.length m.2.2.1 + wl cX m.2.2.1) + (List.length m.2.2.2.1 + wl bn m.2.2.2.1) + (List.length m.2.2.2.2.1 + wl cX m.2.2.2.2.1) + (List.length m.2.2.2.2.2.1 + wl sm m.2.2.2.2.2.1) + (List.length m.2.2.2.2.2.2.2.2.2.2.2.2.2.2.2.1 + wl cX m.2.2.2.2.2.2.2.2.2.2.2.2.2.2.2.1)
noncomputable def E3 (m : Ds) : Bool := match gM m.1 m.2.1 m.2.2.1 m.2.2.2.1 m.2.2.2.2.1 m.2.2.2.2.2.1 m.2.2.2.2.2.2.1 m.2.2.2.2.2.2.2.1 m.2.2.2.2.2.2.2.2.1 m.2.2.2.2.2.2.2.2.2.1 m.2.2.2.2.2.2.2.2.2.2.1 m.2.2.2.2.2.2.2.2.2.2.2.1 m.2.2.2.2.2.2.2.2.2.2.2.2.1 m.2.2.2.2.2.2.2.2.2.2.2.2.2.1 m.2.2.2.2.2.2.2.2.2.2.2.2.2.2.1 m.2.2.2.2.2.2.2.2.2.2.2.2.2.2.2.1 with | some x => x.1 | none => false
theorem LA (m : Ds) (h0 : xH m ≤ 1048576) : gM m.1 m.2.1 m.2.2.1 m.2.2.2.1 m.2.2.2.2.1 m.2.2.2.2.2.1 m.2.2.2.2.2.2.1 m.2.2.2.2.2.2.2.1 m.2.2.2.2.2.2.2.2.1 m.2.2.2.2.2.2.2.2.2.1 m.2.2.2.2.2.2.2.2.2.2.1 m.2.2.2.2.2.2.2.2.2.2.2.1 m.2.2.2.2.2.2.2.2.2.2.2.2.1 m.2.2.2.2.2.2.2.2.2.2.2.2.2.1 m.2.2.2.2.2.2.2.2.2.2.2.2.2.2.1 m.2.2.2.2.2.2.2.2.2.2.2.2.2.2.2.1 = some (E3 m, ()) ∧ kV m.1 m.2.1 m.2.2.1 m.2.2.2.1 m.2.2.2.2.1 m.2.2.2.2.2.1 m.2.2.2.2.2.2.1 m.2.2.2.2.2.2.2.1 m.2.2.2.2.2.2.2.2.1 m.2.2.2.2.2.2.2.2.2.1 m.2.2.2.2.2.2.2.2.2.2.1 m.2.2.2.2.2.2.2.2.2.2.2.1 m.2.2.2.2.2.2.2.2.2.2.2.2.1 m.2.2.2.2.2.2.2.2.2.2.2.2.2.1 m.2.2.2.2.2.2.2.2.2.2.2.2.2.2.1 m.2.2.2.2.2.2.2.2.2.2.2.2.2.2.2.1 = some (E3 m, ()) ∧ (E3 m = true ↔ Jf m) := by
 obtain ⟨b, k1, k2⟩ := yY m.1 m.2.1 m.2.2.1 m.2.2.2.1 m.2.2.2.2.1 m.2.2.2.2.2.1 m.2.2.2.2.2.2.1 m.2.2.2.2.2.2.2.1 m.2.2.2.2.2.2.2.2.1 m.2.2.2.2.2.2.2.2.2.1 m.2.2.2.2.2.2.2.2.2.2.1 m.2.2.2.2.2.2.2.2.2.2.2.1 m.2.2.2.2.2.2.2.2.2.2.2.2.1 m.2.2.2.2.2.2.2.2.2.2.2.2.2.1 m.2.2.2.2.2.2.2.2.2.2.2.2.2.2.1 m.2.2.2.2.2.2.2.2.2.2.2.2.2.2.2.1 h0; have hb : E3 m = b := by unfold E3; rw [k1]
 rw [hb]; refine ⟨k1, k2, ?_⟩; unfold xH at h0; obtain ⟨r1, _, r3⟩ := Dt m.2.1 m.2.2.1 (by omega); have c1 := xE m.2.2.1 m.1 (by omega); obtain ⟨i1, _, i3⟩ := q9 m.2.2.2.1 (by omega); obtain ⟨b4, t1, t2⟩ := wF m.2.2.2.2.1 m.2.2.2.2.2.1 (by omega) (by omega); obtain ⟨a1, a2, a3⟩ := GB m.2.2.2.1 (by omega); have z1 : eB m.2.2.2.2.2.2.2.2.2.2.1 m.2.2.2.2.2.2.2.2.2.2.2.1 m.2.2.2.2.2.2.2.2.2.2.2.2.1 m.2.2.2.2.2.2.2.2.2.2.2.2.2.1 m.2.2.2.2.2.2.2.2.2.2.2.2.2.2.1 m.2.2.2.2.2.2.2.2.2.2.2.2.2.2.2.1 = some (tO (m.2.2.2.2.2.2.2.2.2.2.1, m.2.2.2.2.2.2.2.2.2.2.2.1, m.2.2.2.2.2.2.2.2.2.2.2.2.1, m.2.2.2.2.2.2.2.2.2.2.2.2.2.1, m.2.2.2.2.2.2.2.2.2.2.2.2.2.2.1, m.2.2.2.2.2.2.2.2.2.2.2.2.2.2.2.1, ()), ()) := (vi (m.2.2.2.2.2.2.2.2.2.2.1, m.2.2.2.2.2.2.2.2.2.2.2.1, m.2.2.2.2.2.2.2.2.2.2.2.2.1, m.2.2.2.2.2.2.2.2.2.2.2.2.2.1, m.2.2.2.2.2.2.2.2.2.2.2.2.2.2.1, m.2.2.2.2.2.2.2.2.2.2.2.2.2.2.2.1, ())).1; have z3 := (vi (m.2.2.2.2.2.2.2.2.2.2.1, m.2.2.2.2.2.2.2.2.2.2.2.1, m.2.2.2.2.2.2.2.2.2.2.2.2.1, m.2.2.2.2.2.2.2.2.2.2.2.2.2.1, m.2.2.2.2.2.2.2.2.2.2.2.2.2.2.1, m.2.2.2.2.2.2.2.2.2.2.2.2.2.2.2.1, ())).2.2; have w1 : gH m.2.2.2.2.2.2.2.2.2.2.1 m.2.2.2.2.2.2.2.2.2.2.2.1 m.2.2.2.2.2.2.2.2.2.2.2.2.1 m.2.2.2.2.2.2.2.2.2.2.2.2.2.1 m.2.2.2.2.2.2.2.2.2.2.2.2.2.2.1 m.2.2.2.2.2.2.2.2.2.2.2.2.2.2.2.1 = some (GA (m.2.2.2.2.2.2.2.2.2.2.1, m.2.2.2.2.2.2.2.2.2.2.2.1, m.2.2.2.2.2.2.2.2.2.2.2.2.1, m.2.2.2.2.2.2.2.2.2.2.2.2.2.1, m.2.2.2.2.2.2.2.2.2.2.2.2.2.2.1, m.2.2.2.2.2.2.2.2.2.2.2.2.2.2.2.1, ()), ()) := (Ly (m.2.2.2.2.2.2.2.2.2.2.1, m.2.2.2.2.2.2.2.2.2.2.2.1, m.2.2.2.2.2.2.2.2.2.2.2.2.1, m.2.2.2.2.2.2.2.2.2.2.2.2.2.1, m.2.2.2.2.2.2.2.2.2.2.2.2.2.2.1, m.2.2.2.2.2.2.2.2.2.2.2.2.2.2.2.1, ()) (by show m.2.2.2.2.2.2.2.2.2.2.2.2.2.2.2.1.length ≤ _; omega)).1; have w3 := (Ly (m.2.2.2.2.2.2.2.2.2.2.1, m.2.2.2.2.2.2.2.2.2.2.2.1, m.2.2.2.2.2.2.2.2.2.2.2.2.1, m.2.2.2.2.2.2.2.2.2.2.2.2.2.1, m.2.2.2.2.2.2.2.2.2.2.2.2.2.2.1, m.2.2.2.2.2.2.2.2.2.2.2.2.2.2.2.1, ()) (by show m.2.2.2.2.2.2.2.2.2.2.2.2.2.2.2.1.length ≤ _; omega)).2.2; unfold gM at k1; simp only [r1, c1, i1, t1, a1, z1, w1, oA, Option.bind_some] at k1
 cases e1 : zc m.2.1 m.2.2.1
 · rw [e1] at k1; injection k1 with k1; injection k1 with k1 _; subst k1; exact ⟨fun h => (by cases h), fun h => by rw [r3.2 h.ring] at e1; cases e1⟩
 by_cases e2 : (m.1, ()) ∈ m.2.2.1
 case neg =>
   rw [e1, aj e2] at k1; injection k1 with k1; injection k1 with k1 _; subst k1; exact ⟨fun h => (by cases h), fun h => absurd h.mem e2⟩
 cases e3 : pb m.2.2.2.1
 · rw [e1, ai e2, e3] at k1; injection k1 with k1; injection k1 with k1 _; subst k1; exact ⟨fun h => (by cases h), fun h => by rw [i3.2 h.items] at e3; cases e3⟩
 cases b4
 · rw [e1, ai e2, e3] at k1; injection k1 with k1; injection k1 with k1 _; subst k1; exact ⟨fun h => (by cases h), fun h => by have := t2.2 ⟨h.texts.1, h.texts.2, h.lev, h.short⟩; cases this⟩
 rw [e1, ai e2, e3] at k1; simp only [Bool.not_true, cond_false] at k1
 cases e5 : (decide ((0 : Int) ≤ m.2.2.2.2.2.2.1) && decide (m.2.2.2.2.2.2.1 ≤ 1000000000))
 · rw [e5] at k1; injection k1 with k1; injection k1 with k1 _; subst k1; exact ⟨fun h => (by cases h), fun h => by rw [nY.2 h.round] at e5; cases e5⟩
 cases e6 : (decide ((0 : Int) ≤ m.2.2.2.2.2.2.2.1) && decide (m.2.2.2.2.2.2.2.1 ≤ 60))
 · rw [e5, e6] at k1; injection k1 with k1; injection k1 with k1 _; subst k1; exact ⟨fun h => (by cases h), fun h => by rw [nY.2 h.seen] at e6; cases e6⟩
 cases e8 : (decide ((0 : Int) ≤ m.2.2.2.2.2.2.2.2.1) && decide (m.2.2.2.2.2.2.2.2.1 ≤ ((lF m.2.2.2.1 : Nat) : Int)))
 · rw [e5, e6, e8] at k1; injection k1 with k1; injection k1 with k1 _; subst k1; exact ⟨fun h => (by cases h), fun h => by rw [nY.2 h.line] at e8; cases e8⟩
 cases e9 : (decide ((0 : Int) ≤ m.2.2.2.2.2.2.2.2.2.1) && decide (m.2.2.2.2.2.2.2.2.2.1 ≤ ((lF m.2.2.2.1 : Nat) : Int)))
 · rw [e5, e6, e8, e9] at k1; injection k1 with k1; injection k1 with k1 _; subst k1; exact ⟨fun h => (by cases h), fun h => by rw [nY.2 h.heard] at e9; cases e9⟩
 rw [e5, e6, e8, e9] at k1; obtain ⟨t3, t4, t5, t6⟩ := t2.1 rfl; have mk : (Blank (m.2.2.2.2.2.2.2.2.2.2.1, m.2.2.2.2.2.2.2.2.2.2.2.1, m.2.2.2.2.2.2.2.2.2.2.2.2.1, m.2.2.2.2.2.2.2.2.2.2.2.2.2.1, m.2.2.2.2.2.2.2.2.2.2.2.2.2.2.1, m.2.2.2.2.2.2.2.2.2.2.2.2.2.2.2.1, ()) ∨ Ra (m.2.2.2.2.2.2.2.2.2.2.1, m.2.2.2.2.2.2.2.2.2.2.2.1, m.2.2.2.2.2.2.2.2.2.2.2.2.1, m.2.2.2.2.2.2.2.2.2.2.2.2.2.1, m.2.2.2.2.2.2.2.2.2.2.2.2.2.2.1, m.2.2.2.2.2.2.2.2.2.2.2.2.2.2.2.1, ())) → Jf m := fun hl => ⟨r3.1 e1, e2, i3.1 e3, ⟨t3, t4⟩, t5, t6, ju e5, ju e6, ju e8, ju e9, hl⟩
 cases Q7 : tO (m.2.2.2.2.2.2.2.2.2.2.1, m.2.2.2.2.2.2.2.2.2.2.2.1, m.2.2.2.2.2.2.2.2.2.2.2.2.1, m.2.2.2.2.2.2.2.2.2.2.2.2.2.1, m.2.2.2.2.2.2.2.2.2.2.2.2.2.2.1, m.2.2.2.2.2.2.2.2.2.2.2.2.2.2.2.1, ())
 · rw [Q7] at k1
   cases WQ : GA (m.2.2.2.2.2.2.2.2.2.2.1, m.2.2.2.2.2.2.2.2.2.2.2.1, m.2.2.2.2.2.2.2.2.2.2.2.2.1, m.2.2.2.2.2.2.2.2.2.2.2.2.2.1, m.2.2.2.2.2.2.2.2.2.2.2.2.2.2.1, m.2.2.2.2.2.2.2.2.2.2.2.2.2.2.2.1, ())
   · rw [WQ] at k1; injection k1 with k1; injection k1 with k1 _; subst k1; refine ⟨fun h => (by cases h), fun h => ?_⟩; rcases h.last with q | q
     · rw [z3.2 q] at Q7; cases Q7
     · rw [w3.2 q] at WQ; cases WQ
   · rw [WQ] at k1; injection k1 with k1; injection k1 with k1 _; subst k1; exact ⟨fun _ => mk (.inr (w3.1 WQ)), fun _ => rfl⟩
 · rw [Q7] at k1; injection k1 with k1; injection k1 with k1 _; subst k1; exact ⟨fun _ => mk (.inl (z3.1 Q7)), fun _ => rfl⟩
theorem Jf.small {m : Ds} (h : Jf m) : xH m ≤ 5000 := by
 have h1 := rK _ h.items; have h2 := yZ _ h.short; have h3 := h.texts; have h4 := h.ring.2.1; have h5 : m.2.2.2.2.2.2.2.2.2.2.2.2.2.2.2.1.length ≤ 20 := by
   rcases h.last with q | q
   · rw [show m.2.2.2.2.2.2.2.2.2.2.2.2.2.2.2.1 = [] from q.2.2.2.2.2]; exact Nat.zero_le _
   · exact q.2.2.2.2.2.1
 unfold xH; rw [qf cX (fun _ => rfl), qf cX (fun _ => rfl), qf cX (fun _ => rfl)]; omega
end Go.TM
set_option linter.unusedSimpArgs false
set_option linter.unusedVariables false
namespace Go.TM
open Go
theorem A8 (b x : Bool) : (bif b then some (x, ()) else some (false, ())) = some ((b && x), ()) := by cases b <;> rfl
theorem E4 (b x : Bool) : (bif !b then some (false, ()) else some (x, ())) = some ((b && x), ()) := by cases b <;> rfl
theorem sU (c : Int) (xs : List (Int × Unit)) : fK c xs = some ((decide (c = 0) && decide (((List.length xs : Nat) : Int) = 0)), ()) ∧ gW c xs = some ((decide (c = 0) && decide (((List.length xs : Nat) : Int) = 0)), ()) := by
 unfold fK gW; simp only [A8]; exact ⟨trivial, trivial⟩
theorem zd (jQ : Int) (jz : Int) (fS : List (Int × Unit)) (gr : bz) (eX : List (Int × Unit)) (gT : List (ByteArray × Unit)) (kM kN kO kP ff fh fi fj fk : Int) (dH : List (Int × Unit)) : ∃ b, eJ jQ jz fS gr eX gT kM kN kO kP ff fh fi fj fk dH = some (b, ()) ∧ fu jQ jz fS gr eX gT kM kN kO kP ff fh fi fj fk dH = some (b, ()) ∧ (b = true → jz = 0) := by
 obtain ⟨b6, z1, z2⟩ := tN ff fh fi fj fk dH; obtain ⟨n1, n2⟩ := sU jz fS; unfold eJ fu; simp only [z1, z2, n1, n2, Option.bind_some, A8, E4]; refine ⟨_, rfl, ?_, fun h => ?_⟩
 · congr 2
   ac_rfl
 · simp only [Bool.and_eq_true, decide_eq_true_eq] at h; exact h.2.1.1
theorem BD (cJ : Int) (dI : Bool) (dj : Int) (cO : Int) (cS : List (Int × Unit)) (di : bz) (cT : List (Int × Unit)) (cU : List (ByteArray × Unit)) (dx : Int) (dy : Int) (bT : Int) (bL : Int) (bU : Int) (bV : Int) (bW : Int) (bX : Int) (bY : Int) (bG : List (Int × Unit)) (bo : Int) (bk : Int) (aO : Int) (aJ : List (Int × Unit)) (ba : List (Int × Int × Int × (List (Int × Int × Int × ByteArray × Unit)) × Unit)) (bp : List (Int × Int × (List (Int × Unit)) × Int × Int × Int × ByteArray × (List (Int × Unit)) × Unit)) (h0 : (List.length cS + wl cX cS) + (List.length di + wl bn di) + (List.length cT + wl cX cT) + (List.length cU + wl sm cU) + (List.length bG + wl cX bG) + (List.length aJ + wl cX aJ) + (List.length ba + wl aF ba) + (List.length bp + wl au bp) ≤ 1048576) : ∃ o0, iQ cJ dI dj cO cS di cT cU dx dy bT bL bU bV bW bX bY bG bo bk aO aJ ba bp = some (o0, ()) ∧ mb cJ dI dj cO cS di cT cU dx dy bT bL bU bV bW bX bY bG bo bk aO aJ ba bp = some (o0, ()) := by
 have Oq : (List.length cS + wl cX cS) + (List.length di + wl bn di) + (List.length cT + wl cX cT) + (List.length cU + wl sm cU) + (List.length bG + wl cX bG) ≤ 1048576 := by omega
 obtain ⟨nm, n1, n2, n3⟩ := zd dj cO cS di cT cU dx dy bT bL bU bV bW bX bY bG; obtain ⟨b, k1, k2, _⟩ := Lv dj cO cS di cT cU dx dy bT bL bU bV bW bX bY bG Oq; obtain ⟨r1, r2⟩ := sU aO aJ; obtain ⟨b8, q1, q2, _⟩ := vF aO aJ (by omega); obtain ⟨b9, c1, c2⟩ := pz cJ aJ (by omega); obtain ⟨e, f, g1, g2, g3⟩ : ∃ e f, aD cY (cJ, dI, dj, cO, cS, di, cT, cU, dx, dy, bT, bL, bU, bV, bW, bX, bY, bG, bo, bk, aO, aJ, ba, bp, (0 : Int), ()) = some e ∧ aD dL (cJ, dI, dj, cO, cS, di, cT, cU, dx, dy, bT, bL, bU, bV, bW, bX, bY, bG, bo, bk, aO, aJ, ba, bp, ba, ((List.length ba : Nat) : Int), (0 : Int), ()) = some f ∧
     ((e = .inl () ∧ f = .inl (cJ, dI, dj, cO, cS, di, cT, cU, dx, dy, bT, bL, bU, bV, bW, bX, bY, bG, bo, bk, aO, aJ, ba, bp, ())) ∨ (e = .inr (false, ()) ∧ f = .inr (cJ, dI, dj, cO, cS, di, cT, cU, dx, dy, bT, bL, bU, bV, bW, bX, bY, bG, bo, bk, aO, aJ, ba, bp, false, ()))) := by
   refine sM ba.length (fun k x y => x = (cJ, dI, dj, cO, cS, di, cT, cU, dx, dy, bT, bL, bU, bV, bW, bX, bY, bG, bo, bk, aO, aJ, ba, bp, ((k : Nat) : Int), ()) ∧ y = (cJ, dI, dj, cO, cS, di, cT, cU, dx, dy, bT, bL, bU, bV, bW, bX, bY, bG, bo, bk, aO, aJ, ba, bp, ba, ((List.length ba : Nat) : Int), ((k : Nat) : Int), ())) _ ?_ ⟨rfl, rfl⟩
   rintro k x y hk ⟨rfl, rfl⟩
   by_cases dC : k < ba.length
   · have hw := pN aF ba ba[k] (List.getElem_mem dC); have hl : (ba[k].2.2.2.1).length ≤ 1048576 := by
       have : aF ba[k] = List.length ba[k].2.2.2.1 + wl bn ba[k].2.2.2.1 := rfl; omega
     obtain ⟨x, v1, v2⟩ := yX ba[k].1 ba[k].2.1 ba[k].2.2.1 ba[k].2.2.2.1 hl; simp only [cY, jj, dL, iS, aw dC, aq, cond_true, az, List.getElem?_eq_getElem dC, Option.bind_some, v1, v2, aA (show k < 4611686018427387904 by omega)]
     cases x
     · exact .inl ⟨_, _, rfl, rfl, .inr ⟨rfl, rfl⟩⟩
     · by_cases hn : ba[k].2.1 = aO
       · rw [ai hn]; exact .inr ⟨dC, _, _, rfl, rfl, rfl, rfl⟩
       · rw [aj hn]; exact .inl ⟨_, _, rfl, rfl, .inr ⟨rfl, rfl⟩⟩
   · have : k = ba.length := by omega
     subst this; exact .inl ⟨.inl (), .inl (cJ, dI, dj, cO, cS, di, cT, cU, dx, dy, bT, bL, bU, bV, bW, bX, bY, bG, bo, bk, aO, aJ, ba, bp, ()), by simp only [cY, jj, ax, cond_false], by simp only [dL, iS, ax, cond_false], .inl ⟨rfl, rfl⟩⟩
 unfold iQ mb dK; simp only [oA, sn, sS, n1, n2, k1, k2, r1, r2, q1, q2, c1, c2, g1, g2, Option.bind_some]
 cases (decide (1 ≤ cJ) && decide (cJ ≤ 5))
 · exact ⟨_, rfl, rfl⟩
 cases hB : (decide (0 ≤ bo) && decide (bo ≤ 9))
 · exact ⟨_, rfl, rfl⟩
 have hB := ju hB; simp only [Bool.not_true, cond_false]
 cases dI
 · cases nm
   · cases b
     · by_cases o0 : dj = cJ
       · rw [ai o0]; exact ⟨_, rfl, rfl⟩
       · rw [aj o0]; exact ⟨_, rfl, rfl⟩
     by_cases o0 : dj = cJ
     case neg => rw [aj o0]; exact ⟨_, rfl, rfl⟩
     rw [ai o0]
     by_cases o1 : bk = cO
     case neg => rw [aj o1]; exact ⟨_, rfl, rfl⟩
     rw [ai o1]
     by_cases o2 : bo < bk
     · rw [ai o2, aj (show ¬ bk ≤ bo by omega)]; exact ⟨_, rfl, rfl⟩
     rw [aj o2, ai (show bk ≤ bo by omega)]
     cases (decide (aO = 0) && decide (((List.length aJ : Nat) : Int) = 0))
     · cases b8
       · exact ⟨_, rfl, rfl⟩
       cases b9
       · exact ⟨_, rfl, rfl⟩
       cases (decide (IntKind.i64.wrap (bk + (1 : Int)) ≤ aO) && decide (aO ≤ bo))
       · exact ⟨_, rfl, rfl⟩
       rcases g3 with ⟨rfl, rfl⟩ | ⟨rfl, rfl⟩
       · exact ⟨_, rfl, rfl⟩
       · exact ⟨_, rfl, rfl⟩
     · exact ⟨_, rfl, rfl⟩
   · have h3 := n3 rfl
     by_cases o1 : bk = cO
     case neg => rw [aj o1]; exact ⟨_, rfl, rfl⟩
     rw [ai o1]
     by_cases o2 : bo < bk
     · rw [ai o2, aj (show ¬ bk ≤ bo by omega)]; exact ⟨_, rfl, rfl⟩
     rw [aj o2, ai (show bk ≤ bo by omega)]
     cases (decide (aO = 0) && decide (((List.length aJ : Nat) : Int) = 0))
     · cases b8
       · exact ⟨_, rfl, rfl⟩
       cases b9
       · exact ⟨_, rfl, rfl⟩
       cases (decide (IntKind.i64.wrap (bk + (1 : Int)) ≤ aO) && decide (aO ≤ bo))
       · exact ⟨_, rfl, rfl⟩
       rcases g3 with ⟨rfl, rfl⟩ | ⟨rfl, rfl⟩
       · exact ⟨_, rfl, rfl⟩
       · exact ⟨_, rfl, rfl⟩
     · exact ⟨_, rfl, rfl⟩
 · cases nm
   · exact ⟨_, rfl, rfl⟩
   have h3 := n3 rfl
   by_cases o3 : bk = 0
   case neg => rw [aj o3]; exact ⟨_, rfl, rfl⟩
   rw [ai o3, ai (show bk = cO by omega), ai (show bk ≤ bo by omega)]
   cases (decide (aO = 0) && decide (((List.length aJ : Nat) : Int) = 0))
   · exact ⟨_, rfl, rfl⟩
   by_cases o4 : ((List.length ba : Nat) : Int) = 0
   · rw [ai o4, aj (show ¬ (0 : Int) < ((List.length ba : Nat) : Int) by omega)]; exact ⟨_, rfl, rfl⟩
   · rw [aj o4, ai (show (0 : Int) < ((List.length ba : Nat) : Int) by omega)]; exact ⟨_, rfl, rfl⟩
end Go.TM
set_option linter.unusedSimpArgs false
set_option linter.unusedVariables false
namespace Go.TM
open Go
abbrev fa (d : na) : Ds := (d.2.2.1, d.2.2.2.1, d.2.2.2.2.1, d.2.2.2.2.2.1, d.2.2.2.2.2.2.1, d.2.2.2.2.2.2.2.1, d.2.2.2.2.2.2.2.2.1, d.2.2.2.2.2.2.2.2.2.1, d.2.2.2.2.2.2.2.2.2.2.1, d.2.2.2.2.2.2.2.2.2.2.2.1, d.2.2.2.2.2.2.2.2.2.2.2.2.1, d.2.2.2.2.2.2.2.2.2.2.2.2.2.1, d.2.2.2.2.2.2.2.2.2.2.2.2.2.2.1, d.2.2.2.2.2.2.2.2.2.2.2.2.2.2.2.1, d.2.2.2.2.2.2.2.2.2.2.2.2.2.2.2.2.1, d.2.2.2.2.2.2.2.2.2.2.2.2.2.2.2.2.2.1, ())
def Cq (m : Ds) : Prop := m.1 = 0 ∧ m.2.1 = 0 ∧ m.2.2.1 = [] ∧ m.2.2.2.1 = [] ∧ m.2.2.2.2.1 = [] ∧ m.2.2.2.2.2.1 = [] ∧ m.2.2.2.2.2.2.1 = 0 ∧ m.2.2.2.2.2.2.2.1 = 0 ∧ m.2.2.2.2.2.2.2.2.1 = 0 ∧ m.2.2.2.2.2.2.2.2.2.1 = 0 ∧ Blank (m.2.2.2.2.2.2.2.2.2.2.1, m.2.2.2.2.2.2.2.2.2.2.2.1, m.2.2.2.2.2.2.2.2.2.2.2.2.1, m.2.2.2.2.2.2.2.2.2.2.2.2.2.1, m.2.2.2.2.2.2.2.2.2.2.2.2.2.2.1, m.2.2.2.2.2.2.2.2.2.2.2.2.2.2.2.1, ())
noncomputable def vj (m : Ds) : Bool := match eJ m.1 m.2.1 m.2.2.1 m.2.2.2.1 m.2.2.2.2.1 m.2.2.2.2.2.1 m.2.2.2.2.2.2.1 m.2.2.2.2.2.2.2.1 m.2.2.2.2.2.2.2.2.1 m.2.2.2.2.2.2.2.2.2.1 m.2.2.2.2.2.2.2.2.2.2.1 m.2.2.2.2.2.2.2.2.2.2.2.1 m.2.2.2.2.2.2.2.2.2.2.2.2.1 m.2.2.2.2.2.2.2.2.2.2.2.2.2.1 m.2.2.2.2.2.2.2.2.2.2.2.2.2.2.1 m.2.2.2.2.2.2.2.2.2.2.2.2.2.2.2.1 with | some x => x.1 | none => false
theorem M4 {α : Type} (xs : List α) : ((List.length xs : Nat) : Int) = 0 ↔ xs = [] := by rw [← List.length_eq_zero_iff]; omega
theorem E5 (m : Ds) : eJ m.1 m.2.1 m.2.2.1 m.2.2.2.1 m.2.2.2.2.1 m.2.2.2.2.2.1 m.2.2.2.2.2.2.1 m.2.2.2.2.2.2.2.1 m.2.2.2.2.2.2.2.2.1 m.2.2.2.2.2.2.2.2.2.1 m.2.2.2.2.2.2.2.2.2.2.1 m.2.2.2.2.2.2.2.2.2.2.2.1 m.2.2.2.2.2.2.2.2.2.2.2.2.1 m.2.2.2.2.2.2.2.2.2.2.2.2.2.1 m.2.2.2.2.2.2.2.2.2.2.2.2.2.2.1 m.2.2.2.2.2.2.2.2.2.2.2.2.2.2.2.1 = some (vj m, ()) ∧ fu m.1 m.2.1 m.2.2.1 m.2.2.2.1 m.2.2.2.2.1 m.2.2.2.2.2.1 m.2.2.2.2.2.2.1 m.2.2.2.2.2.2.2.1 m.2.2.2.2.2.2.2.2.1 m.2.2.2.2.2.2.2.2.2.1 m.2.2.2.2.2.2.2.2.2.2.1 m.2.2.2.2.2.2.2.2.2.2.2.1 m.2.2.2.2.2.2.2.2.2.2.2.2.1 m.2.2.2.2.2.2.2.2.2.2.2.2.2.1 m.2.2.2.2.2.2.2.2.2.2.2.2.2.2.1 m.2.2.2.2.2.2.2.2.2.2.2.2.2.2.2.1 = some (vj m, ()) ∧ (vj m = true ↔ Cq m) := by
 obtain ⟨b, k1, k2, _⟩ := zd m.1 m.2.1 m.2.2.1 m.2.2.2.1 m.2.2.2.2.1 m.2.2.2.2.2.1 m.2.2.2.2.2.2.1 m.2.2.2.2.2.2.2.1 m.2.2.2.2.2.2.2.2.1 m.2.2.2.2.2.2.2.2.2.1 m.2.2.2.2.2.2.2.2.2.2.1 m.2.2.2.2.2.2.2.2.2.2.2.1 m.2.2.2.2.2.2.2.2.2.2.2.2.1 m.2.2.2.2.2.2.2.2.2.2.2.2.2.1 m.2.2.2.2.2.2.2.2.2.2.2.2.2.2.1 m.2.2.2.2.2.2.2.2.2.2.2.2.2.2.2.1; have hb : vj m = b := by unfold vj; rw [k1]
 rw [hb]; refine ⟨k1, k2, ?_⟩; have z1 : cK m.2.2.2.2.2.2.2.2.2.2.1 m.2.2.2.2.2.2.2.2.2.2.2.1 m.2.2.2.2.2.2.2.2.2.2.2.2.1 m.2.2.2.2.2.2.2.2.2.2.2.2.2.1 m.2.2.2.2.2.2.2.2.2.2.2.2.2.2.1 m.2.2.2.2.2.2.2.2.2.2.2.2.2.2.2.1 = some (tO (m.2.2.2.2.2.2.2.2.2.2.1, m.2.2.2.2.2.2.2.2.2.2.2.1, m.2.2.2.2.2.2.2.2.2.2.2.2.1, m.2.2.2.2.2.2.2.2.2.2.2.2.2.1, m.2.2.2.2.2.2.2.2.2.2.2.2.2.2.1, m.2.2.2.2.2.2.2.2.2.2.2.2.2.2.2.1, ()), ()) := (vi (m.2.2.2.2.2.2.2.2.2.2.1, m.2.2.2.2.2.2.2.2.2.2.2.1, m.2.2.2.2.2.2.2.2.2.2.2.2.1, m.2.2.2.2.2.2.2.2.2.2.2.2.2.1, m.2.2.2.2.2.2.2.2.2.2.2.2.2.2.1, m.2.2.2.2.2.2.2.2.2.2.2.2.2.2.2.1, ())).2.1; have z2 : eB m.2.2.2.2.2.2.2.2.2.2.1 m.2.2.2.2.2.2.2.2.2.2.2.1 m.2.2.2.2.2.2.2.2.2.2.2.2.1 m.2.2.2.2.2.2.2.2.2.2.2.2.2.1 m.2.2.2.2.2.2.2.2.2.2.2.2.2.2.1 m.2.2.2.2.2.2.2.2.2.2.2.2.2.2.2.1 = some (tO (m.2.2.2.2.2.2.2.2.2.2.1, m.2.2.2.2.2.2.2.2.2.2.2.1, m.2.2.2.2.2.2.2.2.2.2.2.2.1, m.2.2.2.2.2.2.2.2.2.2.2.2.2.1, m.2.2.2.2.2.2.2.2.2.2.2.2.2.2.1, m.2.2.2.2.2.2.2.2.2.2.2.2.2.2.2.1, ()), ()) := (vi (m.2.2.2.2.2.2.2.2.2.2.1, m.2.2.2.2.2.2.2.2.2.2.2.1, m.2.2.2.2.2.2.2.2.2.2.2.2.1, m.2.2.2.2.2.2.2.2.2.2.2.2.2.1, m.2.2.2.2.2.2.2.2.2.2.2.2.2.2.1, m.2.2.2.2.2.2.2.2.2.2.2.2.2.2.2.1, ())).1; have z3 := (vi (m.2.2.2.2.2.2.2.2.2.2.1, m.2.2.2.2.2.2.2.2.2.2.2.1, m.2.2.2.2.2.2.2.2.2.2.2.2.1, m.2.2.2.2.2.2.2.2.2.2.2.2.2.1, m.2.2.2.2.2.2.2.2.2.2.2.2.2.2.1, m.2.2.2.2.2.2.2.2.2.2.2.2.2.2.2.1, ())).2.2; obtain ⟨n1, n2⟩ := sU m.2.1 m.2.2.1; unfold eJ at k1; simp only [z2, n1, Option.bind_some, A8, E4] at k1; injection k1 with k1; injection k1 with k1 _; rw [← k1]; unfold Cq; simp only [Bool.and_eq_true, decide_eq_true_eq, M4, z3]
 constructor
 · rintro ⟨a1, ⟨a2, a3⟩, a4, a5, a6, a7, a8, a9, a10, a11⟩
   exact ⟨a1, a2, a3, a4, a5, a6, a7, a8, a9, a10, a11⟩
 · rintro ⟨a1, a2, a3, a4, a5, a6, a7, a8, a9, a10, a11⟩
   exact ⟨a1, ⟨a2, a3⟩, a4, a5, a6, a7, a8, a9, a10, a11⟩
structure M5 (d : na) : Prop where
 id : 1 ≤ d.1 ∧ d.1 ≤ 5
 ab8 : 0 ≤ d.2.2.2.2.2.2.2.2.2.2.2.2.2.2.2.2.2.2.1 ∧ d.2.2.2.2.2.2.2.2.2.2.2.2.2.2.2.2.2.2.1 ≤ 9
 dead : d.2.1 = true → Cq (fa d) ∧ d.2.2.2.2.2.2.2.2.2.2.2.2.2.2.2.2.2.2.2.1 = 0 ∧ d.2.2.2.2.2.2.2.2.2.2.2.2.2.2.2.2.2.2.2.2.1 = 0 ∧ d.2.2.2.2.2.2.2.2.2.2.2.2.2.2.2.2.2.2.2.2.2.1 = [] ∧ d.2.2.2.2.2.2.2.2.2.2.2.2.2.2.2.2.2.2.2.2.2.2.1 = []
 Rb : Cq (fa d) ∨ (Jf (fa d) ∧ d.2.2.1 = d.1)
 old : d.2.2.2.2.2.2.2.2.2.2.2.2.2.2.2.2.2.2.2.1 = d.2.2.2.1 ∧ d.2.2.2.2.2.2.2.2.2.2.2.2.2.2.2.2.2.2.2.1 ≤ d.2.2.2.2.2.2.2.2.2.2.2.2.2.2.2.2.2.2.1
 A9 : (d.2.2.2.2.2.2.2.2.2.2.2.2.2.2.2.2.2.2.2.2.1 = 0 ∧ d.2.2.2.2.2.2.2.2.2.2.2.2.2.2.2.2.2.2.2.2.2.1 = [] ∧ d.2.2.2.2.2.2.2.2.2.2.2.2.2.2.2.2.2.2.2.2.2.2.1 = []) ∨ (xG d.2.2.2.2.2.2.2.2.2.2.2.2.2.2.2.2.2.2.2.2.1 d.2.2.2.2.2.2.2.2.2.2.2.2.2.2.2.2.2.2.2.2.2.1 ∧ (d.1, ()) ∈ d.2.2.2.2.2.2.2.2.2.2.2.2.2.2.2.2.2.2.2.2.2.1 ∧ (d.2.2.2.2.2.2.2.2.2.2.2.2.2.2.2.2.2.2.2.1 + 1 ≤ d.2.2.2.2.2.2.2.2.2.2.2.2.2.2.2.2.2.2.2.2.1 ∧ d.2.2.2.2.2.2.2.2.2.2.2.2.2.2.2.2.2.2.2.2.1 ≤ d.2.2.2.2.2.2.2.2.2.2.2.2.2.2.2.2.2.2.1) ∧ ∀ b ∈ d.2.2.2.2.2.2.2.2.2.2.2.2.2.2.2.2.2.2.2.2.2.2.1, Du b ∧ b.2.1 = d.2.2.2.2.2.2.2.2.2.2.2.2.2.2.2.2.2.2.2.2.1)
def so (d : na) : Nat := (List.length d.2.2.2.2.1 + wl cX d.2.2.2.2.1) + (List.length d.2.2.2.2.2.1 + wl bn d.2.2.2.2.2.1) + (List.length d.2.2.2.2.2.2.1 + wl cX d.2.2.2.2.2.2.1) + (List.length d.2.2.2.2.2.2.2.1 + wl sm d.2.2.2.2.2.2.2.1) + (List.length d.2.2.2.2.2.2.2.2.2.2.2.2.2.2.2.2.2.1 + wl cX d.2.2.2.2.2.2.2.2.2.2.2.2.2.2.2.2.2.1) + (List.length d.2.2.2.2.2.2.2.2.2.2.2.2.2.2.2.2.2.2.2.2.2.1 + wl cX d.2.2.2.2.2.2.2.2.2.2.2.2.2.2.2.2.2.2.2.2.2.1) + (List.length d.2.2.2.2.2.2.2.2.2.2.2.2.2.2.2.2.2.2.2.2.2.2.1 + wl aF d.2.2.2.2.2.2.2.2.2.2.2.2.2.2.2.2.2.2.2.2.2.2.1) + (List.length d.2.2.2.2.2.2.2.2.2.2.2.2.2.2.2.2.2.2.2.2.2.2.2.1 + wl au d.2.2.2.2.2.2.2.2.2.2.2.2.2.2.2.2.2.2.2.2.2.2.2.1)
noncomputable def xI (d : na) : Bool := match iQ d.1 d.2.1 d.2.2.1 d.2.2.2.1 d.2.2.2.2.1 d.2.2.2.2.2.1 d.2.2.2.2.2.2.1 d.2.2.2.2.2.2.2.1 d.2.2.2.2.2.2.2.2.1 d.2.2.2.2.2.2.2.2.2.1 d.2.2.2.2.2.2.2.2.2.2.1 d.2.2.2.2.2.2.2.2.2.2.2.1 d.2.2.2.2.2.2.2.2.2.2.2.2.1 d.2.2.2.2.2.2.2.2.2.2.2.2.2.1 d.2.2.2.2.2.2.2.2.2.2.2.2.2.2.1 d.2.2.2.2.2.2.2.2.2.2.2.2.2.2.2.1 d.2.2.2.2.2.2.2.2.2.2.2.2.2.2.2.2.1 d.2.2.2.2.2.2.2.2.2.2.2.2.2.2.2.2.2.1 d.2.2.2.2.2.2.2.2.2.2.2.2.2.2.2.2.2.2.1 d.2.2.2.2.2.2.2.2.2.2.2.2.2.2.2.2.2.2.2.1 d.2.2.2.2.2.2.2.2.2.2.2.2.2.2.2.2.2.2.2.2.1 d.2.2.2.2.2.2.2.2.2.2.2.2.2.2.2.2.2.2.2.2.2.1 d.2.2.2.2.2.2.2.2.2.2.2.2.2.2.2.2.2.2.2.2.2.2.1 d.2.2.2.2.2.2.2.2.2.2.2.2.2.2.2.2.2.2.2.2.2.2.2.1 with | some x => x.1 | none => false
theorem LB (d : na) (h : so d ≤ 1048576) : ∃ e, aD cY (d.1, d.2.1, d.2.2.1, d.2.2.2.1, d.2.2.2.2.1, d.2.2.2.2.2.1, d.2.2.2.2.2.2.1, d.2.2.2.2.2.2.2.1, d.2.2.2.2.2.2.2.2.1, d.2.2.2.2.2.2.2.2.2.1, d.2.2.2.2.2.2.2.2.2.2.1, d.2.2.2.2.2.2.2.2.2.2.2.1, d.2.2.2.2.2.2.2.2.2.2.2.2.1, d.2.2.2.2.2.2.2.2.2.2.2.2.2.1, d.2.2.2.2.2.2.2.2.2.2.2.2.2.2.1, d.2.2.2.2.2.2.2.2.2.2.2.2.2.2.2.1, d.2.2.2.2.2.2.2.2.2.2.2.2.2.2.2.2.1, d.2.2.2.2.2.2.2.2.2.2.2.2.2.2.2.2.2.1, d.2.2.2.2.2.2.2.2.2.2.2.2.2.2.2.2.2.2.1, d.2.2.2.2.2.2.2.2.2.2.2.2.2.2.2.2.2.2.2.1, d.2.2.2.2.2.2.2.2.2.2.2.2.2.2.2.2.2.2.2.2.1, d.2.2.2.2.2.2.2.2.2.2.2.2.2.2.2.2.2.2.2.2.2.1, d.2.2.2.2.2.2.2.2.2.2.2.2.2.2.2.2.2.2.2.2.2.2.1, d.2.2.2.2.2.2.2.2.2.2.2.2.2.2.2.2.2.2.2.2.2.2.2.1, (0 : Int), ()) = some e ∧ ((e = .inl () ∧ ∀ b ∈ d.2.2.2.2.2.2.2.2.2.2.2.2.2.2.2.2.2.2.2.2.2.2.1, Du b ∧ b.2.1 = d.2.2.2.2.2.2.2.2.2.2.2.2.2.2.2.2.2.2.2.2.1) ∨ (e = .inr (false, ()) ∧ ¬ ∀ b ∈ d.2.2.2.2.2.2.2.2.2.2.2.2.2.2.2.2.2.2.2.2.2.2.1, Du b ∧ b.2.1 = d.2.2.2.2.2.2.2.2.2.2.2.2.2.2.2.2.2.2.2.2.1)) := by
 unfold so at h; obtain ⟨e, he, hq⟩ := eH (round := cY) (x := (d.1, d.2.1, d.2.2.1, d.2.2.2.1, d.2.2.2.2.1, d.2.2.2.2.2.1, d.2.2.2.2.2.2.1, d.2.2.2.2.2.2.2.1, d.2.2.2.2.2.2.2.2.1, d.2.2.2.2.2.2.2.2.2.1, d.2.2.2.2.2.2.2.2.2.2.1, d.2.2.2.2.2.2.2.2.2.2.2.1, d.2.2.2.2.2.2.2.2.2.2.2.2.1, d.2.2.2.2.2.2.2.2.2.2.2.2.2.1, d.2.2.2.2.2.2.2.2.2.2.2.2.2.2.1, d.2.2.2.2.2.2.2.2.2.2.2.2.2.2.2.1, d.2.2.2.2.2.2.2.2.2.2.2.2.2.2.2.2.1, d.2.2.2.2.2.2.2.2.2.2.2.2.2.2.2.2.2.1, d.2.2.2.2.2.2.2.2.2.2.2.2.2.2.2.2.2.2.1, d.2.2.2.2.2.2.2.2.2.2.2.2.2.2.2.2.2.2.2.1, d.2.2.2.2.2.2.2.2.2.2.2.2.2.2.2.2.2.2.2.2.1, d.2.2.2.2.2.2.2.2.2.2.2.2.2.2.2.2.2.2.2.2.2.1, d.2.2.2.2.2.2.2.2.2.2.2.2.2.2.2.2.2.2.2.2.2.2.1, d.2.2.2.2.2.2.2.2.2.2.2.2.2.2.2.2.2.2.2.2.2.2.2.1, ((0 : Nat) : Int), ())) (d.2.2.2.2.2.2.2.2.2.2.2.2.2.2.2.2.2.2.2.2.2.2.1).length (fun k x => x = (d.1, d.2.1, d.2.2.1, d.2.2.2.1, d.2.2.2.2.1, d.2.2.2.2.2.1, d.2.2.2.2.2.2.1, d.2.2.2.2.2.2.2.1, d.2.2.2.2.2.2.2.2.1, d.2.2.2.2.2.2.2.2.2.1, d.2.2.2.2.2.2.2.2.2.2.1, d.2.2.2.2.2.2.2.2.2.2.2.1, d.2.2.2.2.2.2.2.2.2.2.2.2.1, d.2.2.2.2.2.2.2.2.2.2.2.2.2.1, d.2.2.2.2.2.2.2.2.2.2.2.2.2.2.1, d.2.2.2.2.2.2.2.2.2.2.2.2.2.2.2.1, d.2.2.2.2.2.2.2.2.2.2.2.2.2.2.2.2.1, d.2.2.2.2.2.2.2.2.2.2.2.2.2.2.2.2.2.1, d.2.2.2.2.2.2.2.2.2.2.2.2.2.2.2.2.2.2.1, d.2.2.2.2.2.2.2.2.2.2.2.2.2.2.2.2.2.2.2.1, d.2.2.2.2.2.2.2.2.2.2.2.2.2.2.2.2.2.2.2.2.1, d.2.2.2.2.2.2.2.2.2.2.2.2.2.2.2.2.2.2.2.2.2.1, d.2.2.2.2.2.2.2.2.2.2.2.2.2.2.2.2.2.2.2.2.2.2.1, d.2.2.2.2.2.2.2.2.2.2.2.2.2.2.2.2.2.2.2.2.2.2.2.1, ((k : Nat) : Int), ()) ∧ ∀ j (hj : j < (d.2.2.2.2.2.2.2.2.2.2.2.2.2.2.2.2.2.2.2.2.2.2.1).length), j < k → Du (d.2.2.2.2.2.2.2.2.2.2.2.2.2.2.2.2.2.2.2.2.2.2.1)[j] ∧ (d.2.2.2.2.2.2.2.2.2.2.2.2.2.2.2.2.2.2.2.2.2.2.1)[j].2.1 = d.2.2.2.2.2.2.2.2.2.2.2.2.2.2.2.2.2.2.2.2.1)
   (fun e => (e = .inl () ∧ ∀ b ∈ d.2.2.2.2.2.2.2.2.2.2.2.2.2.2.2.2.2.2.2.2.2.2.1, Du b ∧ b.2.1 = d.2.2.2.2.2.2.2.2.2.2.2.2.2.2.2.2.2.2.2.2.1) ∨ (e = .inr (false, ()) ∧ ¬ ∀ b ∈ d.2.2.2.2.2.2.2.2.2.2.2.2.2.2.2.2.2.2.2.2.2.2.1, Du b ∧ b.2.1 = d.2.2.2.2.2.2.2.2.2.2.2.2.2.2.2.2.2.2.2.2.1)) (by
     rintro x ⟨rfl, g⟩
     refine ⟨.inl (), by simp only [cY, jj, ax, cond_false], .inl ⟨rfl, fun b hb => ?_⟩⟩; obtain ⟨k, hk, rfl⟩ := List.mem_iff_getElem.1 hb; exact g k hk hk) (by
     rintro k x hk ⟨rfl, g⟩
     have hl := xD d.2.2.2.2.2.2.2.2.2.2.2.2.2.2.2.2.2.2.2.2.2.2.1 hk (by omega); have hb := (oZ (d.2.2.2.2.2.2.2.2.2.2.2.2.2.2.2.2.2.2.2.2.2.2.1)[k] hl).1; have hi := M3 (d.2.2.2.2.2.2.2.2.2.2.2.2.2.2.2.2.2.2.2.2.2.2.1)[k] hl; simp only [cY, jj, aw hk, aq, cond_true, az, List.getElem?_eq_getElem hk, Option.bind_some, hb, aA (show k < 4611686018427387904 by omega)]
     cases hv : nW (d.2.2.2.2.2.2.2.2.2.2.2.2.2.2.2.2.2.2.2.2.2.2.1)[k]
     · exact .inl ⟨.inr (false, ()), rfl, .inr ⟨rfl, fun hn => by rw [hi.2 (hn _ (List.getElem_mem hk)).1] at hv; cases hv⟩⟩
     · by_cases hn : (d.2.2.2.2.2.2.2.2.2.2.2.2.2.2.2.2.2.2.2.2.2.2.1)[k].2.1 = d.2.2.2.2.2.2.2.2.2.2.2.2.2.2.2.2.2.2.2.2.1
       · rw [ai hn]; refine .inr ⟨_, rfl, rfl, fun j hj x7 => ?_⟩
         by_cases e : j < k
         · exact g j hj e
         · have : j = k := by omega
           subst this; exact ⟨hi.1 hv, hn⟩
       · rw [aj hn]; exact .inl ⟨.inr (false, ()), rfl, .inr ⟨rfl, fun hq => hn (hq _ (List.getElem_mem hk)).2⟩⟩) ⟨rfl, fun j _ h => by omega⟩
 exact ⟨e, he, hq⟩
theorem some_inj {a b : Bool} (h : some (a, ()) = some (b, ())) : a = b := by
 injection h with h; injection h with h _
theorem LC (d : na) (h : so d ≤ 1048576) : iQ d.1 d.2.1 d.2.2.1 d.2.2.2.1 d.2.2.2.2.1 d.2.2.2.2.2.1 d.2.2.2.2.2.2.1 d.2.2.2.2.2.2.2.1 d.2.2.2.2.2.2.2.2.1 d.2.2.2.2.2.2.2.2.2.1 d.2.2.2.2.2.2.2.2.2.2.1 d.2.2.2.2.2.2.2.2.2.2.2.1 d.2.2.2.2.2.2.2.2.2.2.2.2.1 d.2.2.2.2.2.2.2.2.2.2.2.2.2.1 d.2.2.2.2.2.2.2.2.2.2.2.2.2.2.1 d.2.2.2.2.2.2.2.2.2.2.2.2.2.2.2.1 d.2.2.2.2.2.2.2.2.2.2.2.2.2.2.2.2.1 d.2.2.2.2.2.2.2.2.2.2.2.2.2.2.2.2.2.1 d.2.2.2.2.2.2.2.2.2.2.2.2.2.2.2.2.2.2.1 d.2.2.2.2.2.2.2.2.2.2.2.2.2.2.2.2.2.2.2.1 d.2.2.2.2.2.2.2.2.2.2.2.2.2.2.2.2.2.2.2.2.1 d.2.2.2.2.2.2.2.2.2.2.2.2.2.2.2.2.2.2.2.2.2.1 d.2.2.2.2.2.2.2.2.2.2.2.2.2.2.2.2.2.2.2.2.2.2.1 d.2.2.2.2.2.2.2.2.2.2.2.2.2.2.2.2.2.2.2.2.2.2.2.1 = some (xI d, ()) ∧ mb d.1 d.2.1 d.2.2.1 d.2.2.2.1 d.2.2.2.2.1 d.2.2.2.2.2.1 d.2.2.2.2.2.2.1 d.2.2.2.2.2.2.2.1 d.2.2.2.2.2.2.2.2.1 d.2.2.2.2.2.2.2.2.2.1 d.2.2.2.2.2.2.2.2.2.2.1 d.2.2.2.2.2.2.2.2.2.2.2.1 d.2.2.2.2.2.2.2.2.2.2.2.2.1 d.2.2.2.2.2.2.2.2.2.2.2.2.2.1 d.2.2.2.2.2.2.2.2.2.2.2.2.2.2.1 d.2.2.2.2.2.2.2.2.2.2.2.2.2.2.2.1 d.2.2.2.2.2.2.2.2.2.2.2.2.2.2.2.2.1 d.2.2.2.2.2.2.2.2.2.2.2.2.2.2.2.2.2.1 d.2.2.2.2.2.2.2.2.2.2.2.2.2.2.2.2.2.2.1 d.2.2.2.2.2.2.2.2.2.2.2.2.2.2.2.2.2.2.2.1 d.2.2.2.2.2.2.2.2.2.2.2.2.2.2.2.2.2.2.2.2.1 d.2.2.2.2.2.2.2.2.2.2.2.2.2.2.2.2.2.2.2.2.2.1 d.2.2.2.2.2.2.2.2.2.2.2.2.2.2.2.2.2.2.2.2.2.2.1 d.2.2.2.2.2.2.2.2.2.2.2.2.2.2.2.2.2.2.2.2.2.2.2.1 = some (xI d, ()) ∧ (xI d = true ↔ M5 d) := by
 obtain ⟨b, k1, k2⟩ := BD d.1 d.2.1 d.2.2.1 d.2.2.2.1 d.2.2.2.2.1 d.2.2.2.2.2.1 d.2.2.2.2.2.2.1 d.2.2.2.2.2.2.2.1 d.2.2.2.2.2.2.2.2.1 d.2.2.2.2.2.2.2.2.2.1 d.2.2.2.2.2.2.2.2.2.2.1 d.2.2.2.2.2.2.2.2.2.2.2.1 d.2.2.2.2.2.2.2.2.2.2.2.2.1 d.2.2.2.2.2.2.2.2.2.2.2.2.2.1 d.2.2.2.2.2.2.2.2.2.2.2.2.2.2.1 d.2.2.2.2.2.2.2.2.2.2.2.2.2.2.2.1 d.2.2.2.2.2.2.2.2.2.2.2.2.2.2.2.2.1 d.2.2.2.2.2.2.2.2.2.2.2.2.2.2.2.2.2.1 d.2.2.2.2.2.2.2.2.2.2.2.2.2.2.2.2.2.2.1 d.2.2.2.2.2.2.2.2.2.2.2.2.2.2.2.2.2.2.2.1 d.2.2.2.2.2.2.2.2.2.2.2.2.2.2.2.2.2.2.2.2.1 d.2.2.2.2.2.2.2.2.2.2.2.2.2.2.2.2.2.2.2.2.2.1 d.2.2.2.2.2.2.2.2.2.2.2.2.2.2.2.2.2.2.2.2.2.2.1 d.2.2.2.2.2.2.2.2.2.2.2.2.2.2.2.2.2.2.2.2.2.2.2.1 h; have hb : xI d = b := by unfold xI; rw [k1]
 rw [hb]; refine ⟨k1, k2, ?_⟩; have h0 := h; unfold so at h0; have n1 : eJ d.2.2.1 d.2.2.2.1 d.2.2.2.2.1 d.2.2.2.2.2.1 d.2.2.2.2.2.2.1 d.2.2.2.2.2.2.2.1 d.2.2.2.2.2.2.2.2.1 d.2.2.2.2.2.2.2.2.2.1 d.2.2.2.2.2.2.2.2.2.2.1 d.2.2.2.2.2.2.2.2.2.2.2.1 d.2.2.2.2.2.2.2.2.2.2.2.2.1 d.2.2.2.2.2.2.2.2.2.2.2.2.2.1 d.2.2.2.2.2.2.2.2.2.2.2.2.2.2.1 d.2.2.2.2.2.2.2.2.2.2.2.2.2.2.2.1 d.2.2.2.2.2.2.2.2.2.2.2.2.2.2.2.2.1 d.2.2.2.2.2.2.2.2.2.2.2.2.2.2.2.2.2.1 = some (vj (fa d), ()) := (E5 (fa d)).1; have n3 := (E5 (fa d)).2.2; have hw : xH (fa d) ≤ 1048576 := by
   show (List.length d.2.2.2.2.1 + wl cX d.2.2.2.2.1) + (List.length d.2.2.2.2.2.1 + wl bn d.2.2.2.2.2.1) + (List.length d.2.2.2.2.2.2.1 + wl cX d.2.2.2.2.2.2.1) + (List.length d.2.2.2.2.2.2.2.1 + wl sm d.2.2.2.2.2.2.2.1) + (List.length d.2.2.2.2.2.2.2.2.2.2.2.2.2.2.2.2.2.1 + wl cX d.2.2.2.2.2.2.2.2.2.2.2.2.2.2.2.2.2.1) ≤ 1048576; omega
 have m1 : gM d.2.2.1 d.2.2.2.1 d.2.2.2.2.1 d.2.2.2.2.2.1 d.2.2.2.2.2.2.1 d.2.2.2.2.2.2.2.1 d.2.2.2.2.2.2.2.2.1 d.2.2.2.2.2.2.2.2.2.1 d.2.2.2.2.2.2.2.2.2.2.1 d.2.2.2.2.2.2.2.2.2.2.2.1 d.2.2.2.2.2.2.2.2.2.2.2.2.1 d.2.2.2.2.2.2.2.2.2.2.2.2.2.1 d.2.2.2.2.2.2.2.2.2.2.2.2.2.2.1 d.2.2.2.2.2.2.2.2.2.2.2.2.2.2.2.1 d.2.2.2.2.2.2.2.2.2.2.2.2.2.2.2.2.1 d.2.2.2.2.2.2.2.2.2.2.2.2.2.2.2.2.2.1 = some (E3 (fa d), ()) := (LA (fa d) hw).1; have m3 := (LA (fa d) hw).2.2; obtain ⟨r1, _⟩ := sU d.2.2.2.2.2.2.2.2.2.2.2.2.2.2.2.2.2.2.2.2.1 d.2.2.2.2.2.2.2.2.2.2.2.2.2.2.2.2.2.2.2.2.2.1; obtain ⟨q1, _, q3⟩ := Dt d.2.2.2.2.2.2.2.2.2.2.2.2.2.2.2.2.2.2.2.2.1 d.2.2.2.2.2.2.2.2.2.2.2.2.2.2.2.2.2.2.2.2.2.1 (by omega); have c1 := xE d.2.2.2.2.2.2.2.2.2.2.2.2.2.2.2.2.2.2.2.2.2.1 d.1 (by omega); obtain ⟨e, g1, g2⟩ := LB d h; have Sv : (decide (d.2.2.2.2.2.2.2.2.2.2.2.2.2.2.2.2.2.2.2.2.1 = 0) && decide (((List.length d.2.2.2.2.2.2.2.2.2.2.2.2.2.2.2.2.2.2.2.2.2.1 : Nat) : Int) = 0)) = true ↔ (d.2.2.2.2.2.2.2.2.2.2.2.2.2.2.2.2.2.2.2.2.1 = 0 ∧ d.2.2.2.2.2.2.2.2.2.2.2.2.2.2.2.2.2.2.2.2.2.1 = []) := by rw [nY, M4]
 unfold iQ at k1; simp only [oA, n1, m1, r1, q1, c1, g1, Option.bind_some] at k1
 cases e1 : (decide (1 ≤ d.1) && decide (d.1 ≤ 5))
 · rw [e1] at k1; have := some_inj k1; subst this; exact ⟨fun h => (by cases h), fun h => by rw [nY.2 h.id] at e1; cases e1⟩
 have a1 := ju e1
 cases e2 : (decide (0 ≤ d.2.2.2.2.2.2.2.2.2.2.2.2.2.2.2.2.2.2.1) && decide (d.2.2.2.2.2.2.2.2.2.2.2.2.2.2.2.2.2.2.1 ≤ 9))
 · rw [e1, e2] at k1; have := some_inj k1; subst this; exact ⟨fun h => (by cases h), fun h => by rw [nY.2 h.ab8] at e2; cases e2⟩
 have a2 := ju e2; rw [e1, e2] at k1; simp only [Bool.not_true, cond_false] at k1
 cases e3 : d.2.1
 · -- it aej
   rw [e3] at k1; have tail : (E3 (fa d) = true → d.2.2.1 = d.1 → False) ∨ True := .inr trivial; have rest : (Cq (fa d) ∨ (Jf (fa d) ∧ d.2.2.1 = d.1)) → (0 ≤ d.2.2.2.1 ∧ d.2.2.2.1 ≤ 9) → (bif !decide (d.2.2.2.2.2.2.2.2.2.2.2.2.2.2.2.2.2.2.2.1 = d.2.2.2.1) then some (false, ()) else bif decide (d.2.2.2.2.2.2.2.2.2.2.2.2.2.2.2.2.2.2.1 < d.2.2.2.2.2.2.2.2.2.2.2.2.2.2.2.2.2.2.2.1) then some (false, ()) else
       bif (decide (d.2.2.2.2.2.2.2.2.2.2.2.2.2.2.2.2.2.2.2.2.1 = 0) && decide (((List.length d.2.2.2.2.2.2.2.2.2.2.2.2.2.2.2.2.2.2.2.2.2.1 : Nat) : Int) = 0)) then some (decide (((List.length d.2.2.2.2.2.2.2.2.2.2.2.2.2.2.2.2.2.2.2.2.2.2.1 : Nat) : Int) = 0), ()) else
       bif !zc d.2.2.2.2.2.2.2.2.2.2.2.2.2.2.2.2.2.2.2.2.1 d.2.2.2.2.2.2.2.2.2.2.2.2.2.2.2.2.2.2.2.2.2.1 then some (false, ()) else bif !decide ((d.1, ()) ∈ d.2.2.2.2.2.2.2.2.2.2.2.2.2.2.2.2.2.2.2.2.2.1) then some (false, ()) else
       bif !(decide (IntKind.i64.wrap (d.2.2.2.2.2.2.2.2.2.2.2.2.2.2.2.2.2.2.2.1 + (1 : Int)) ≤ d.2.2.2.2.2.2.2.2.2.2.2.2.2.2.2.2.2.2.2.2.1) && decide (d.2.2.2.2.2.2.2.2.2.2.2.2.2.2.2.2.2.2.2.2.1 ≤ d.2.2.2.2.2.2.2.2.2.2.2.2.2.2.2.2.2.2.1)) then some (false, ()) else cM (some e) (fun _ => some (true, ())) (fun y => some (y.1, ()))) = some (b, ()) → (b = true ↔ M5 d) := by
     intro hm hr k
     by_cases o1 : d.2.2.2.2.2.2.2.2.2.2.2.2.2.2.2.2.2.2.2.1 = d.2.2.2.1
     case neg =>
       rw [aj o1] at k; have := some_inj k; subst this; exact ⟨fun h => (by cases h), fun h => absurd h.old.1 o1⟩
     by_cases o2 : d.2.2.2.2.2.2.2.2.2.2.2.2.2.2.2.2.2.2.1 < d.2.2.2.2.2.2.2.2.2.2.2.2.2.2.2.2.2.2.2.1
     · rw [ai o1, ai o2] at k; have := some_inj k; subst this; exact ⟨fun h => (by cases h), fun h => by have := h.old.2; omega⟩
     rw [ai o1, aj o2, ej (by omega) (by omega)] at k; have mk : ((d.2.2.2.2.2.2.2.2.2.2.2.2.2.2.2.2.2.2.2.2.1 = 0 ∧ d.2.2.2.2.2.2.2.2.2.2.2.2.2.2.2.2.2.2.2.2.2.1 = [] ∧ d.2.2.2.2.2.2.2.2.2.2.2.2.2.2.2.2.2.2.2.2.2.2.1 = []) ∨ (xG d.2.2.2.2.2.2.2.2.2.2.2.2.2.2.2.2.2.2.2.2.1 d.2.2.2.2.2.2.2.2.2.2.2.2.2.2.2.2.2.2.2.2.2.1 ∧ (d.1, ()) ∈ d.2.2.2.2.2.2.2.2.2.2.2.2.2.2.2.2.2.2.2.2.2.1 ∧ (d.2.2.2.2.2.2.2.2.2.2.2.2.2.2.2.2.2.2.2.1 + 1 ≤ d.2.2.2.2.2.2.2.2.2.2.2.2.2.2.2.2.2.2.2.2.1 ∧ d.2.2.2.2.2.2.2.2.2.2.2.2.2.2.2.2.2.2.2.2.1 ≤ d.2.2.2.2.2.2.2.2.2.2.2.2.2.2.2.2.2.2.1) ∧ ∀ b ∈ d.2.2.2.2.2.2.2.2.2.2.2.2.2.2.2.2.2.2.2.2.2.2.1, Du b ∧ b.2.1 = d.2.2.2.2.2.2.2.2.2.2.2.2.2.2.2.2.2.2.2.2.1)) → M5 d := fun hj =>
       ⟨a1, a2, fun hd => (by rw [e3] at hd; cases hd), hm, ⟨o1, by omega⟩, hj⟩
     cases e4 : (decide (d.2.2.2.2.2.2.2.2.2.2.2.2.2.2.2.2.2.2.2.2.1 = 0) && decide (((List.length d.2.2.2.2.2.2.2.2.2.2.2.2.2.2.2.2.2.2.2.2.2.1 : Nat) : Int) = 0))
     · have Jq : ¬ (d.2.2.2.2.2.2.2.2.2.2.2.2.2.2.2.2.2.2.2.2.1 = 0 ∧ d.2.2.2.2.2.2.2.2.2.2.2.2.2.2.2.2.2.2.2.2.2.1 = [] ∧ d.2.2.2.2.2.2.2.2.2.2.2.2.2.2.2.2.2.2.2.2.2.2.1 = []) := fun hz => by rw [Sv.2 ⟨hz.1, hz.2.1⟩] at e4; cases e4
       rw [e4] at k
       cases e5 : zc d.2.2.2.2.2.2.2.2.2.2.2.2.2.2.2.2.2.2.2.2.1 d.2.2.2.2.2.2.2.2.2.2.2.2.2.2.2.2.2.2.2.2.2.1
       · rw [e5] at k; have := some_inj k; subst this; exact ⟨fun h => (by cases h), fun h => by
           rcases h.A9 with q | q
           · exact absurd q Jq
           · rw [q3.2 q.1] at e5; cases e5⟩
       by_cases e6 : (d.1, ()) ∈ d.2.2.2.2.2.2.2.2.2.2.2.2.2.2.2.2.2.2.2.2.2.1
       case neg =>
         rw [e5, aj e6] at k; have := some_inj k; subst this; exact ⟨fun h => (by cases h), fun h => by
           rcases h.A9 with q | q
           · exact absurd q Jq
           · exact absurd q.2.1 e6⟩
       cases e7 : (decide (d.2.2.2.2.2.2.2.2.2.2.2.2.2.2.2.2.2.2.2.1 + 1 ≤ d.2.2.2.2.2.2.2.2.2.2.2.2.2.2.2.2.2.2.2.2.1) && decide (d.2.2.2.2.2.2.2.2.2.2.2.2.2.2.2.2.2.2.2.2.1 ≤ d.2.2.2.2.2.2.2.2.2.2.2.2.2.2.2.2.2.2.1))
       · rw [e5, ai e6, e7] at k; have := some_inj k; subst this; exact ⟨fun h => (by cases h), fun h => by
           rcases h.A9 with q | q
           · exact absurd q Jq
           · rw [nY.2 q.2.2.1] at e7; cases e7⟩
       rw [e5, ai e6, e7] at k; rcases g2 with ⟨rfl, g⟩ | ⟨rfl, g⟩
       · have := some_inj k; subst this; exact ⟨fun _ => mk (.inr ⟨q3.1 e5, e6, ju e7, g⟩), fun _ => rfl⟩
       · have := some_inj k; subst this; exact ⟨fun h => (by cases h), fun h => by
           rcases h.A9 with q | q
           · exact absurd q Jq
           · exact absurd q.2.2.2 g⟩
     · have hn := Sv.1 e4; rw [e4] at k; have := some_inj k; subst this; rw [decide_eq_true_eq, M4]; refine ⟨fun h => mk (.inl ⟨hn.1, hn.2, h⟩), fun h => ?_⟩; rcases h.A9 with q | q
       · exact q.2.2
       · have := q.1.1.1; omega
   cases e4 : vj (fa d)
   · rw [e4] at k1; simp only [Bool.not_false, cond_true] at k1; have nn : ¬ Cq (fa d) := fun hz => by rw [n3.2 hz] at e4; cases e4
     cases e5 : E3 (fa d)
     · rw [e5] at k1; have := some_inj k1; subst this; exact ⟨fun h => (by cases h), fun h => by
         rcases h.Rb with q | q
         · exact absurd q nn
         · rw [m3.2 q.1] at e5; cases e5⟩
     by_cases e6 : d.2.2.1 = d.1
     case neg =>
       rw [e5, aj e6] at k1; have := some_inj k1; subst this; exact ⟨fun h => (by cases h), fun h => by
         rcases h.Rb with q | q
         · exact absurd q nn
         · exact absurd q.2 e6⟩
     rw [e5, ai e6] at k1; have hq := m3.1 e5; have h3 : 1 ≤ d.2.2.2.1 ∧ d.2.2.2.1 ≤ 9 := hq.ring.1; exact rest (.inr ⟨hq, e6⟩) ⟨by omega, h3.2⟩ k1
   · rw [e4] at k1; have hz := n3.1 e4; have h3 : d.2.2.2.1 = 0 := hz.2.1; exact rest (.inl hz) ⟨by omega, by omega⟩ k1
 · -- it is dead
   rw [e3] at k1; simp only [cond_true] at k1
   cases e4 : vj (fa d)
   · rw [e4] at k1; have := some_inj k1; subst this; exact ⟨fun h => (by cases h), fun h => by rw [n3.2 (h.dead e3).1] at e4; cases e4⟩
   have hz := n3.1 e4
   by_cases e5 : d.2.2.2.2.2.2.2.2.2.2.2.2.2.2.2.2.2.2.2.1 = 0
   case neg =>
     rw [e4, aj e5] at k1; have := some_inj k1; subst this; exact ⟨fun h => (by cases h), fun h => absurd (h.dead e3).2.1 e5⟩
   cases e6 : (decide (d.2.2.2.2.2.2.2.2.2.2.2.2.2.2.2.2.2.2.2.2.1 = 0) && decide (((List.length d.2.2.2.2.2.2.2.2.2.2.2.2.2.2.2.2.2.2.2.2.2.1 : Nat) : Int) = 0))
   · rw [e4, ai e5, e6] at k1; have := some_inj k1; subst this; exact ⟨fun h => (by cases h), fun h => by rw [Sv.2 ⟨(h.dead e3).2.2.1, (h.dead e3).2.2.2.1⟩] at e6; cases e6⟩
   have hn := Sv.1 e6; rw [e4, ai e5, e6] at k1; have := some_inj k1; subst this; rw [decide_eq_true_eq, M4]; have h3 : d.2.2.2.1 = 0 := hz.2.1; exact ⟨fun h => ⟨a1, a2, fun _ => ⟨hz, e5, hn.1, hn.2, h⟩, .inl hz, ⟨by omega, by omega⟩, .inl ⟨hn.1, hn.2, h⟩⟩, fun h => (h.dead e3).2.2.2.2⟩
end Go.TM
set_option linter.unusedSimpArgs false
set_option linter.unusedVariables false
namespace Go.TM
open Go
def qw : bz → jt → bz
 | [], m => [m]
 | r :: xs, m => if r.1 < m.1 then r :: qw xs m else if r.1 = m.1 then r :: xs else m :: r :: xs
def Jg (xs : bz) : Prop := xs.Pairwise fun a b => a.1 < b.1
def lS (xs : bz) (m : jt) : Nat := (xs.takeWhile fun r => decide (r.1 < m.1)).length
theorem M6 (xs : bz) (m : jt) : lS xs m ≤ xs.length := (List.takeWhile_sublist _).length_le
theorem yt (r : jt) (xs : bz) (m : jt) : lS (r :: xs) m = if r.1 < m.1 then lS xs m + 1 else 0 := by
 unfold lS; rw [List.takeWhile_cons]
 by_cases h : r.1 < m.1
 · simp [h]
 · simp [h]
theorem E6 (m : jt) : (xs : bz) → qw xs m = if h : lS xs m < xs.length then (if xs[lS xs m].1 = m.1 then xs else xs.take (lS xs m) ++ ([m] ++ xs.drop (lS xs m))) else xs.take (lS xs m) ++ ([m] ++ xs.drop (lS xs m))
 | [] => rfl
 | r :: xs => by
   have ih := E6 m xs; unfold qw
   by_cases h : r.1 < m.1
   · rw [if_pos h, ih]; have hp : lS (r :: xs) m = lS xs m + 1 := by rw [yt, if_pos h]
     by_cases h2 : lS xs m < xs.length
     · have h3 : lS (r :: xs) m < (r :: xs).length := by rw [hp, List.length_cons]; omega
       rw [dif_pos h2, dif_pos h3]; have e : (r :: xs)[lS (r :: xs) m] = xs[lS xs m] := by simp [hp]
       rw [e]
       by_cases h4 : xs[lS xs m].1 = m.1
       · rw [if_pos h4, if_pos h4]
       · rw [if_neg h4, if_neg h4, hp]; rfl
     · have h3 : ¬ lS (r :: xs) m < (r :: xs).length := by rw [hp, List.length_cons]; omega
       rw [dif_neg h2, dif_neg h3, hp]; rfl
   · rw [if_neg h]; have hp : lS (r :: xs) m = 0 := by rw [yt, if_neg h]
     have h3 : lS (r :: xs) m < (r :: xs).length := by rw [hp, List.length_cons]; omega
     rw [dif_pos h3]; have e : (r :: xs)[lS (r :: xs) m] = r := by simp [hp]
     rw [e, hp]; rfl
theorem LF {xs : bz} (h : gp xs xs.length) : Jg xs := by
 have key : ∀ (d i : Nat) (hi : i + d + 1 < xs.length), xs[i].1 < xs[i + d + 1].1 := by
   intro d
   induction d with
   | zero => intro i hi; exact (h (i + 1) hi hi).2 (by omega)
   | succ d ih =>
     intro i hi; have h1 := ih i (by omega); have h2 := (h (i + (d + 1) + 1) hi hi).2 (by omega); have e : i + (d + 1) + 1 - 1 = i + d + 1 := by omega
     simp only [e] at h2; omega
 unfold Jg; rw [List.pairwise_iff_getElem]; intro i j hi hj YL; have := key (j - i - 1) i (by omega); simpa [show i + (j - i - 1) + 1 = j by omega] using this
theorem LG {xs : bz} (h : Jg xs) (hi : ∀ r ∈ xs, vh r) : gp xs xs.length := by
 intro k hk _; refine ⟨hi _ (List.getElem_mem hk), fun h0 => ?_⟩; unfold Jg at h; rw [List.pairwise_iff_getElem] at h; exact h (k - 1) k (by omega) hk (by omega)
theorem vG {xs : bz} (h : gp xs xs.length) : ∀ r ∈ xs, vh r := by
 intro r hr; obtain ⟨k, hk, rfl⟩ := List.mem_iff_getElem.1 hr; exact (h k hk hk).1
theorem Ba {r m : jt} : {xs : bz} → r ∈ qw xs m → r = m ∨ r ∈ xs
 | [], h => by
   unfold qw at h; exact .inl (List.mem_singleton.1 h)
 | x :: xs, h => by
   unfold qw at h
   split at h
   · rcases List.mem_cons.1 h with rfl | h
     · exact .inr List.mem_cons_self
     · exact (Ba h).imp id (List.mem_cons_of_mem _)
   · split at h
     · exact .inr h
     · rcases List.mem_cons.1 h with rfl | h
       · exact .inl rfl
       · exact .inr h
theorem E7 {m : jt} : {xs : bz} → Jg xs → Jg (qw xs m)
 | [], _ => by unfold qw Jg; simp
 | x :: xs, h => by
   unfold Jg at h; rw [List.pairwise_cons] at h; unfold qw
   split
   · rename_i dC; unfold Jg; rw [List.pairwise_cons]; refine ⟨fun y hy => ?_, E7 h.2⟩; rcases Ba hy with rfl | hy
     · exact dC
     · exact h.1 y hy
   · split
     · unfold Jg; rw [List.pairwise_cons]; exact h
     · unfold Jg; rw [List.pairwise_cons, List.pairwise_cons]; refine ⟨fun y hy => ?_, h⟩; rcases List.mem_cons.1 hy with rfl | hy
       · omega
       · have := h.1 y hy; omega
theorem GC {xs : bz} {m : jt} (h : gp xs xs.length) (hm : vh m) : gp (qw xs m) (qw xs m).length :=
 LG (E7 (LF h)) fun r hr => (Ba hr).elim (fun e => e ▸ hm) (vG h r)
def mY (xs : bz) (m : jt) : bz := xs.filter fun r => decide (r.1 < m.1)
def ra (xs : bz) (m : jt) : bz := xs.filter fun r => decide (m.1 < r.1)
def xJ (xs : bz) (s : Int) : Bool := xs.any fun r => decide (r.1 = s)
theorem ze (m : jt) : (xs : bz) → Jg xs → qw xs m = bif xJ xs m.1 then xs else mY xs m ++ [m] ++ ra xs m
 | [], _ => rfl
 | r :: xs, h => by
   unfold Jg at h; rw [List.pairwise_cons] at h; have ih := ze m xs h.2; unfold qw
   by_cases h1 : r.1 < m.1
   · rw [if_pos h1, ih]; have e1 : xJ (r :: xs) m.1 = xJ xs m.1 := by unfold xJ; rw [List.any_cons, aj (show ¬ r.1 = m.1 by omega)]; rfl
     have e2 : mY (r :: xs) m = r :: mY xs m := by unfold mY; rw [List.filter_cons, if_pos (ai h1)]
     have e3 : ra (r :: xs) m = ra xs m := by unfold ra; rw [List.filter_cons, if_neg (by rw [decide_eq_true_eq]; omega)]
     rw [e1, e2, e3]
     cases xJ xs m.1 <;> rfl
   · rw [if_neg h1]
     by_cases h2 : r.1 = m.1
     · have e1 : xJ (r :: xs) m.1 = true := by unfold xJ; rw [List.any_cons, ai h2]; rfl
       rw [if_pos h2, e1]; rfl
     · rw [if_neg h2]; have n6 : ∀ y ∈ r :: xs, m.1 < y.1 := by
         intro y hy; rcases List.mem_cons.1 hy with rfl | hy
         · omega
         · have := h.1 y hy; omega
       have e1 : xJ (r :: xs) m.1 = false := by
         unfold xJ; rw [List.any_eq_false]; intro y hy; have := n6 y hy; rw [decide_eq_true_eq]; omega
       have e2 : mY (r :: xs) m = [] := by
         unfold mY; rw [List.filter_eq_nil_iff]; intro y hy; have := n6 y hy; rw [decide_eq_true_eq]; omega
       have e3 : ra (r :: xs) m = r :: xs := by
         unfold ra; rw [List.filter_eq_self]; intro y hy; exact ai (n6 y hy)
       rw [e1, e2, e3]; rfl
theorem Dv (xs : bz) (m : jt) (h : xs.length ≤ 1048576) (hi : pb xs = true) (hm : A7 m = true) : ql xs m.1 m.2.1 m.2.2.1 m.2.2.2.1 = some (qw xs m, ()) := by
 obtain ⟨k1, _, k3⟩ := q9 xs h; obtain ⟨q1, _, _⟩ := Hs m; have hs := LF (k3.1 hi); have hlen : ∀ k, (mY (xs.take k) m).length ≤ k := fun k => Nat.le_trans (List.length_filter_le _ _) (by rw [List.length_take]; omega)
 have WR : ∀ k, (ra (xs.take k) m).length ≤ k := fun k => Nat.le_trans (List.length_filter_le _ _) (by rw [List.length_take]; omega)
 have l1 := pG (round := ir) (n := xs.length) (fun k => (xs, m.1, m.2.1, m.2.2.1, m.2.2.2.1, xs, mY (xs.take k) m, ((k : Nat) : Int), ())) (fun k => some (bif xJ (xs.drop k) m.1 then .inr (xs, ()) else .inl (xs, m.1, m.2.1, m.2.2.1, m.2.2.2.1, mY xs m, ())))
   ⟨.inl (xs, m.1, m.2.1, m.2.2.1, m.2.2.2.1, mY xs m, ()), by simp only [ir, pU, ax, cond_false, List.take_length], by rw [List.drop_length]; rfl⟩ (fun k hk => by
     have e : xJ (xs.drop k) m.1 = (decide (xs[k].1 = m.1) || xJ (xs.drop (k + 1)) m.1) := by unfold xJ; rw [List.drop_eq_getElem_cons hk, List.any_cons]
     have e2 : mY (xs.take (k + 1)) m = mY (xs.take k) m ++ (if decide (xs[k].1 < m.1) = true then [xs[k]] else []) := by
       unfold mY; rw [List.take_succ_eq_append_getElem hk, List.filter_append, List.filter_cons]
       split <;> rfl
     have hb : Nat.ble (((mY (xs.take k) m).length + 1) * 40) lim = true := bh (by have := hlen k; unfold lim; omega); simp only [ir, pU, aw hk, aq, cond_true, az, List.getElem?_eq_getElem hk, Option.bind_some, aA (show k < 4611686018427387904 by omega), hb, e, e2]
     by_cases h1 : xs[k].1 = m.1
     · rw [ai h1]; exact .inl ⟨_, rfl, rfl⟩
     · rw [aj h1]; refine .inr ⟨?_, rfl⟩
       by_cases h2 : xs[k].1 < m.1
       · rw [ai h2]; rfl
       · rw [aj h2, if_neg (by decide), List.append_nil]; rfl) 0 (Nat.zero_le _)
 have l1 : aD ir (xs, m.1, m.2.1, m.2.2.1, m.2.2.2.1, xs, [], (0 : Int), ()) = _ := l1; rw [List.drop_zero] at l1; have l2 := bK (round := gm) (e := .inl (mY xs m ++ [m] ++ ra xs m, ())) xs.length (fun k => (xs, m.1, m.2.1, m.2.2.1, m.2.2.2.1, mY xs m ++ [m] ++ ra (xs.take k) m, ((k : Nat) : Int), ())) (by
   simp only [gm, pV, ax, cond_false, List.take_length]) (fun k hk => by
     have e2 : ra (xs.take (k + 1)) m = ra (xs.take k) m ++ (if decide (m.1 < xs[k].1) = true then [xs[k]] else []) := by
       unfold ra; rw [List.take_succ_eq_append_getElem hk, List.filter_append, List.filter_cons]
       split <;> rfl
     have hb : Nat.ble (((mY xs m ++ [m] ++ ra (xs.take k) m).length + 1) * 40) lim = true := bh (by
       have h1 := hlen xs.length; rw [List.take_length] at h1; have h2 := WR k; simp only [List.length_append, List.length_cons, List.length_nil]; unfold lim; omega)
     simp only [gm, pV, aw hk, aq, cond_true, az, List.getElem?_eq_getElem hk, Option.bind_some, aA (show k < 4611686018427387904 by omega), hb, e2]
     by_cases h2 : m.1 < xs[k].1
     · rw [ai h2, if_pos rfl, ← List.append_assoc]; rfl
     · rw [aj h2, if_neg (by decide), List.append_nil]; rfl)
 have l2 : aD gm (xs, m.1, m.2.1, m.2.2.1, m.2.2.2.1, mY xs m ++ [m] ++ ra (xs.take 0) m, (0 : Int), ()) = _ := l2; rw [show ra (xs.take 0) m = [] from rfl, List.append_nil] at l2; have LS : Nat.ble ((0 + xs.length) * 40) lim = true := bh (by unfold lim; omega); have Jr : Nat.ble (((mY xs m).length + 1) * 40) lim = true := bh (by
   have h1 := hlen xs.length; rw [List.take_length] at h1; unfold lim; omega)
 rw [ze m xs hs]; unfold ql; simp only [k1, q1, hi, hm, LS, cond_true, Bool.not_true, cond_false, Option.bind_some, List.nil_append, l1]
 cases xJ xs m.1
 · have l3 : aD gm (xs, m.1, m.2.1, m.2.2.1, m.2.2.2.1, mY xs m ++ [(m.1, m.2.1, m.2.2.1, m.2.2.2.1, ())], (0 : Int), ()) = _ := l2; simp only [cond_false, cM, Option.bind_some, Jr, cond_true, l3]
 · rfl
theorem Dw (xs : bz) (m : jt) (h : xs.length ≤ 1048576) : qo xs m.1 m.2.1 m.2.2.1 m.2.2.2.1 = some (qw xs m, ()) := by
 have l1 := pG (round := iy) (n := xs.length) (fun k => (xs, m.1, m.2.1, m.2.2.1, m.2.2.2.1, ((k : Nat) : Int), ())) (fun k => some (.inl (xs, m.1, m.2.1, m.2.2.1, m.2.2.2.1, ((k + lS (xs.drop k) m : Nat) : Int), ())))
   ⟨.inl (xs, m.1, m.2.1, m.2.2.1, m.2.2.2.1, ((xs.length : Nat) : Int), ()), by simp only [iy, p5, ax, cond_false], by rw [List.drop_length]; rfl⟩ (fun k hk => by
     have e : lS (xs.drop k) m = if xs[k].1 < m.1 then lS (xs.drop (k + 1)) m + 1 else 0 := by rw [List.drop_eq_getElem_cons hk, yt]
     simp only [iy, p5, aw hk, aq, cond_true, az, fJ hk, List.getElem?_eq_getElem hk, Option.bind_some, aA (show k < 4611686018427387904 by omega), e]
     by_cases h1 : xs[k].1 < m.1
     · rw [ai h1, if_pos h1]; exact .inr ⟨rfl, by rw [show k + (lS (xs.drop (k + 1)) m + 1) = k + 1 + lS (xs.drop (k + 1)) m by omega]⟩
     · rw [aj h1, if_neg h1]; exact .inl ⟨_, rfl, rfl⟩) 0 (Nat.zero_le _)
 have l1 : aD iy (xs, m.1, m.2.1, m.2.2.1, m.2.2.2.1, (0 : Int), ()) = _ := l1; rw [List.drop_zero, Nat.zero_add] at l1; have hp := M6 xs m; have ab9 : ES xs ((lS xs m : Nat) : Int) [(m.1, m.2.1, m.2.2.1, m.2.2.2.1, ())] = some (xs.take (lS xs m) ++ ([m] ++ xs.drop (lS xs m)), ()) := by
   unfold ES; rw [aq, ai (show ((lS xs m : Nat) : Int) ≤ ((xs.length : Nat) : Int) by omega), bh (show (xs.length + 1) * 40 ≤ lim by unfold lim; omega)]; rfl
 rw [E6]; unfold qo; simp only [l1, cM, ab9, Option.bind_some]
 by_cases h1 : lS xs m < xs.length
 · simp only [dif_pos h1, aw h1, aq, az, fJ h1, cond_true, List.getElem?_eq_getElem h1, Option.bind_some]
   by_cases h2 : xs[lS xs m].1 = m.1
   · rw [ai h2, if_pos h2]; rfl
   · rw [aj h2, if_neg h2]; rfl
 · rw [dif_neg h1, aj (show ¬ ((lS xs m : Nat) : Int) < ((xs.length : Nat) : Int) by omega)]; rfl
end Go.TM
set_option linter.unusedSimpArgs false
set_option linter.unusedVariables false
namespace Go.TM
open Go
theorem pB (c : Int) (xs : lR) (h : xs.length ≤ 1048576) : cj c xs = some (c, xs, ()) := by
 unfold cj; rw [mX _ h]; rfl
end Go.TM
set_option linter.unusedSimpArgs false
set_option linter.unusedVariables false
namespace Go.TM
open Go
theorem mh (b : fx) (h : b.2.2.2.1.length ≤ 1048576) : ia b.1 b.2.1 b.2.2.1 b.2.2.2.1 = some b ∧ jV b.1 b.2.1 b.2.2.1 b.2.2.2.1 = some b := by
 constructor
 · unfold ia; rw [bh (show (0 + b.2.2.2.1.length) * 40 ≤ lim by unfold lim; omega)]; rfl
 · unfold jV; rw [za _ h]; rfl
theorem yu (xs : List fx) (h : xs.length + wl aF xs ≤ 1048576) : eO xs = some (xs, ()) := by
 have hl := bK (round := bN) (e := .inl (xs, ())) xs.length (fun k => (xs, xs.take k, ((k : Nat) : Int), ())) (by
   simp only [bN, eI, ax, cond_false, List.take_length]) (fun k hk => by
   simp only [bN, eI, aw hk, aq, cond_true, az, List.getElem?_eq_getElem hk, Option.bind_some, (mh xs[k] (xD xs hk h)).1, List.length_take, Nat.min_eq_left (Nat.le_of_lt hk), bh (show (k + 1) * 48 ≤ lim by unfold lim; omega), aA (show k < 4611686018427387904 by omega)]; rw [List.take_succ_eq_append_getElem hk])
 have hl : aD bN (xs, [], (0 : Int), ()) = _ := hl; unfold eO; rw [hl]; rfl
theorem yv (xs : List fx) (h : xs.length + wl aF xs ≤ 1048576) : lr xs = some (xs, ()) := by
 have hl := bK (round := eP) (e := .inl (xs, ())) xs.length (fun k => (xs.take k, xs, ((xs.length : Nat) : Int), ((k : Nat) : Int), ())) (by
   simp only [eP, lI, ax, cond_false, List.take_length]) (fun k hk => by
   simp only [eP, lI, aw hk, aq, cond_true, az, List.getElem?_eq_getElem hk, Option.bind_some, (mh xs[k] (xD xs hk h)).2, List.length_take, Nat.min_eq_left (Nat.le_of_lt hk), bh (show (k + 1) * 48 ≤ lim by unfold lim; omega), aA (show k < 4611686018427387904 by omega)]; rw [List.take_succ_eq_append_getElem hk])
 have hl : aD eP ([], xs, ((xs.length : Nat) : Int), (0 : Int), ()) = _ := hl; unfold lr; rw [hl]; rfl
theorem M7 (d : na) (h : so d ≤ 1048576) : fB d.1 d.2.1 d.2.2.1 d.2.2.2.1 d.2.2.2.2.1 d.2.2.2.2.2.1 d.2.2.2.2.2.2.1 d.2.2.2.2.2.2.2.1 d.2.2.2.2.2.2.2.2.1 d.2.2.2.2.2.2.2.2.2.1 d.2.2.2.2.2.2.2.2.2.2.1 d.2.2.2.2.2.2.2.2.2.2.2.1 d.2.2.2.2.2.2.2.2.2.2.2.2.1 d.2.2.2.2.2.2.2.2.2.2.2.2.2.1 d.2.2.2.2.2.2.2.2.2.2.2.2.2.2.1 d.2.2.2.2.2.2.2.2.2.2.2.2.2.2.2.1 d.2.2.2.2.2.2.2.2.2.2.2.2.2.2.2.2.1 d.2.2.2.2.2.2.2.2.2.2.2.2.2.2.2.2.2.1 d.2.2.2.2.2.2.2.2.2.2.2.2.2.2.2.2.2.2.1 d.2.2.2.2.2.2.2.2.2.2.2.2.2.2.2.2.2.2.2.1 d.2.2.2.2.2.2.2.2.2.2.2.2.2.2.2.2.2.2.2.2.1 d.2.2.2.2.2.2.2.2.2.2.2.2.2.2.2.2.2.2.2.2.2.1 d.2.2.2.2.2.2.2.2.2.2.2.2.2.2.2.2.2.2.2.2.2.2.1 d.2.2.2.2.2.2.2.2.2.2.2.2.2.2.2.2.2.2.2.2.2.2.2.1 = some d ∧ mo d.1 d.2.1 d.2.2.1 d.2.2.2.1 d.2.2.2.2.1 d.2.2.2.2.2.1 d.2.2.2.2.2.2.1 d.2.2.2.2.2.2.2.1 d.2.2.2.2.2.2.2.2.1 d.2.2.2.2.2.2.2.2.2.1 d.2.2.2.2.2.2.2.2.2.2.1 d.2.2.2.2.2.2.2.2.2.2.2.1 d.2.2.2.2.2.2.2.2.2.2.2.2.1 d.2.2.2.2.2.2.2.2.2.2.2.2.2.1 d.2.2.2.2.2.2.2.2.2.2.2.2.2.2.1 d.2.2.2.2.2.2.2.2.2.2.2.2.2.2.2.1 d.2.2.2.2.2.2.2.2.2.2.2.2.2.2.2.2.1 d.2.2.2.2.2.2.2.2.2.2.2.2.2.2.2.2.2.1 d.2.2.2.2.2.2.2.2.2.2.2.2.2.2.2.2.2.2.1 d.2.2.2.2.2.2.2.2.2.2.2.2.2.2.2.2.2.2.2.1 d.2.2.2.2.2.2.2.2.2.2.2.2.2.2.2.2.2.2.2.2.1 d.2.2.2.2.2.2.2.2.2.2.2.2.2.2.2.2.2.2.2.2.2.1 d.2.2.2.2.2.2.2.2.2.2.2.2.2.2.2.2.2.2.2.2.2.2.1 d.2.2.2.2.2.2.2.2.2.2.2.2.2.2.2.2.2.2.2.2.2.2.2.1 = some d := by
 have h0 := h; unfold so at h0; have p : lk d.2.2.1 d.2.2.2.1 d.2.2.2.2.1 d.2.2.2.2.2.1 d.2.2.2.2.2.2.1 d.2.2.2.2.2.2.2.1 d.2.2.2.2.2.2.2.2.1 d.2.2.2.2.2.2.2.2.2.1 d.2.2.2.2.2.2.2.2.2.2.1 d.2.2.2.2.2.2.2.2.2.2.2.1 d.2.2.2.2.2.2.2.2.2.2.2.2.1 d.2.2.2.2.2.2.2.2.2.2.2.2.2.1 d.2.2.2.2.2.2.2.2.2.2.2.2.2.2.1 d.2.2.2.2.2.2.2.2.2.2.2.2.2.2.2.1 d.2.2.2.2.2.2.2.2.2.2.2.2.2.2.2.2.1 d.2.2.2.2.2.2.2.2.2.2.2.2.2.2.2.2.2.1 = some (d.2.2.1, d.2.2.2.1, d.2.2.2.2.1, d.2.2.2.2.2.1, d.2.2.2.2.2.2.1, d.2.2.2.2.2.2.2.1, d.2.2.2.2.2.2.2.2.1, d.2.2.2.2.2.2.2.2.2.1, d.2.2.2.2.2.2.2.2.2.2.1, d.2.2.2.2.2.2.2.2.2.2.2.1, d.2.2.2.2.2.2.2.2.2.2.2.2.1, d.2.2.2.2.2.2.2.2.2.2.2.2.2.1, d.2.2.2.2.2.2.2.2.2.2.2.2.2.2.1, d.2.2.2.2.2.2.2.2.2.2.2.2.2.2.2.1, d.2.2.2.2.2.2.2.2.2.2.2.2.2.2.2.2.1, d.2.2.2.2.2.2.2.2.2.2.2.2.2.2.2.2.2.1, ()) ∧ j4 d.2.2.1 d.2.2.2.1 d.2.2.2.2.1 d.2.2.2.2.2.1 d.2.2.2.2.2.2.1 d.2.2.2.2.2.2.2.1 d.2.2.2.2.2.2.2.2.1 d.2.2.2.2.2.2.2.2.2.1 d.2.2.2.2.2.2.2.2.2.2.1 d.2.2.2.2.2.2.2.2.2.2.2.1 d.2.2.2.2.2.2.2.2.2.2.2.2.1 d.2.2.2.2.2.2.2.2.2.2.2.2.2.1 d.2.2.2.2.2.2.2.2.2.2.2.2.2.2.1 d.2.2.2.2.2.2.2.2.2.2.2.2.2.2.2.1 d.2.2.2.2.2.2.2.2.2.2.2.2.2.2.2.2.1 d.2.2.2.2.2.2.2.2.2.2.2.2.2.2.2.2.2.1 = some (d.2.2.1, d.2.2.2.1, d.2.2.2.2.1, d.2.2.2.2.2.1, d.2.2.2.2.2.2.1, d.2.2.2.2.2.2.2.1, d.2.2.2.2.2.2.2.2.1, d.2.2.2.2.2.2.2.2.2.1, d.2.2.2.2.2.2.2.2.2.2.1, d.2.2.2.2.2.2.2.2.2.2.2.1, d.2.2.2.2.2.2.2.2.2.2.2.2.1, d.2.2.2.2.2.2.2.2.2.2.2.2.2.1, d.2.2.2.2.2.2.2.2.2.2.2.2.2.2.1, d.2.2.2.2.2.2.2.2.2.2.2.2.2.2.2.1, d.2.2.2.2.2.2.2.2.2.2.2.2.2.2.2.2.1, d.2.2.2.2.2.2.2.2.2.2.2.2.2.2.2.2.2.1, ()) := zb d.2.2.1 d.2.2.2.1 d.2.2.2.2.1 d.2.2.2.2.2.1 d.2.2.2.2.2.2.1 d.2.2.2.2.2.2.2.1 d.2.2.2.2.2.2.2.2.1 d.2.2.2.2.2.2.2.2.2.1 d.2.2.2.2.2.2.2.2.2.2.1 d.2.2.2.2.2.2.2.2.2.2.2.1 d.2.2.2.2.2.2.2.2.2.2.2.2.1 d.2.2.2.2.2.2.2.2.2.2.2.2.2.1 d.2.2.2.2.2.2.2.2.2.2.2.2.2.2.1 d.2.2.2.2.2.2.2.2.2.2.2.2.2.2.2.1 d.2.2.2.2.2.2.2.2.2.2.2.2.2.2.2.2.1 d.2.2.2.2.2.2.2.2.2.2.2.2.2.2.2.2.2.1 (by omega)
 constructor
 · unfold fB; simp only [p.1, yu d.2.2.2.2.2.2.2.2.2.2.2.2.2.2.2.2.2.2.2.2.2.2.1 (by omega), zv d.2.2.2.2.2.2.2.2.2.2.2.2.2.2.2.2.2.2.2.2.2.2.2.1 (by omega), Option.bind_some, bh (show (0 + (d.2.2.2.2.2.2.2.2.2.2.2.2.2.2.2.2.2.2.2.2.2.1).length) * 8 ≤ lim by unfold lim; omega), cond_true, List.nil_append]
 · unfold mo; simp only [p.2, yv d.2.2.2.2.2.2.2.2.2.2.2.2.2.2.2.2.2.2.2.2.2.2.1 (by omega), zw d.2.2.2.2.2.2.2.2.2.2.2.2.2.2.2.2.2.2.2.2.2.2.2.1 (by omega), pB d.2.2.2.2.2.2.2.2.2.2.2.2.2.2.2.2.2.2.2.2.1 d.2.2.2.2.2.2.2.2.2.2.2.2.2.2.2.2.2.2.2.2.2.1 (by omega), Option.bind_some]
end Go.TM
set_option linter.unusedSimpArgs false
set_option linter.unusedVariables false
namespace Go.TM
open Go
end Go.TM
set_option linter.unusedSimpArgs false
set_option linter.unusedVariables false
namespace Go.TM
open Go
end Go.TM
set_option linter.unusedSimpArgs false
set_option linter.unusedVariables false
namespace Go.TM
open Go
def jv (c : Int) (ms : lR) (l : bz) : List zx := l.map fun x => (1, c, ms, x.1, x.2.1, x.2.2.1, x.2.2.2.1, [], ())
theorem vH (c : Int) (ms : lR) (l : bz) : (jv c ms l).length = l.length := by simp [jv]
theorem Ht (c : Int) (ms : lR) : (l : bz) → wl au (jv c ms l) = l.length * (ms.length + wl cX ms) + wl bn l
 | [] => by simp [jv, u0]
 | x :: l => by
   have ih := Ht c ms l; have e : jv c ms (x :: l) = (1, c, ms, x.1, x.2.1, x.2.2.1, x.2.2.2.1, [], ()) :: jv c ms l := rfl; rw [e, nr, ih, nr, List.length_cons, Nat.add_mul]; have e1 : au ((1, c, ms, x.1, x.2.1, x.2.2.1, x.2.2.2.1, [], ()) : zx) = (ms.length + wl cX ms) + ByteArray.size x.2.2.2.1 + 0 := rfl; have e2 : bn x = ByteArray.size x.2.2.2.1 := rfl; omega
theorem sq (c : Int) (xs : lR) (h : xs.length ≤ 1048576) : aZ c xs = some (c, xs, ()) := by
 unfold aZ; rw [bh (show (0 + xs.length) * 8 ≤ lim by unfold lim; omega)]; rfl
theorem E8 {c : Int} {ms : lR} {l : bz} {lg : List zx} {k : Nat} (hk : k < l.length) : lg ++ jv c ms (l.take (k + 1)) = (lg ++ jv c ms (l.take k)) ++ [(1, c, ms, l[k].1, l[k].2.1, l[k].2.2.1, l[k].2.2.2.1, [], ())] := by
 rw [List.take_succ_eq_append_getElem hk, List.append_assoc]
 congr 1
 unfold jv; rw [List.map_append]; rfl
end Go.TM
set_option linter.unusedSimpArgs false
set_option linter.unusedVariables false
namespace Go.TM
open Go
theorem rL {α : Type} (p : α → Bool) (xs : List α) {k : Nat} (hk : k < xs.length) : (xs.take (k + 1)).filter p = (xs.take k).filter p ++ (if p xs[k] = true then [xs[k]] else []) := by
 rw [List.take_succ_eq_append_getElem hk, List.filter_append, List.filter_cons]
 split <;> rfl
theorem tP {α : Type} (p : α → Bool) (xs : List α) (k : Nat) : ((xs.take k).filter p).length ≤ k := Nat.le_trans (List.length_filter_le _ _) (by rw [List.length_take]; omega)
theorem tQ : (l : bz) → {out : bz} → gp out out.length → (∀ r ∈ l, vh r) → gp (l.foldl qw out) (l.foldl qw out).length
 | [], _, h, _ => h
 | x :: l, _, h, hl => tQ l (GC h (hl x List.mem_cons_self)) (fun r hr => hl r (List.mem_cons_of_mem _ hr))
theorem sV : gp [] ([] : bz).length := fun k hk => by simp at hk
noncomputable def gi (out : bz) (l : bz × Unit) : bz := bif pb l.1 then l.1.foldl qw out else out
noncomputable def sr (lists : List (bz × Unit)) : bz := lists.foldl gi []
theorem GD {out : bz} {l : bz × Unit} (h : gp out out.length) (hl : l.1.length ≤ 1048576) : gp (gi out l) (gi out l).length := by
 unfold gi
 cases hb : pb l.1
 · exact h
 · exact tQ l.1 h (vG ((q9 l.1 hl).2.2.1 hb))
theorem mZ : (lists : List (bz × Unit)) → {out : bz} → gp out out.length → (∀ l ∈ lists, l.1.length ≤ 1048576) → gp (lists.foldl gi out) (lists.foldl gi out).length
 | [], _, h, _ => h
 | l :: lists, _, h, hl => mZ lists (GD h (hl l List.mem_cons_self)) (fun x hx => hl x (List.mem_cons_of_mem _ hx))
theorem sW {xs : bz} (h : gp xs xs.length) : xs.length ≤ 1048576 := Nat.le_trans (rK xs h).1 (by decide)
theorem M8 {xs : bz} (h : gp xs xs.length) : pb xs = true := (q9 xs (sW h)).2.2.2 h
theorem Rc {r : jt} (h : vh r) : A7 r = true := (Hs r).2.2.2 h
theorem GF (lists : List (bz × Unit)) (h : lists.length ≤ 1048576) (hl : ∀ l ∈ lists, l.1.length ≤ 1048576) : tw lists = some (sr lists, ()) := by
 have l1 := bK (round := j2) (e := .inl (sr lists, ())) lists.length (fun k => (lists, (lists.take k).foldl gi [], ((k : Nat) : Int), ())) (by
   simp only [j2, sa, ax, cond_false, List.take_length]; rfl) (fun k hk => by
   have LH := mZ (lists.take k) (out := []) sV (fun l um => hl l (List.mem_of_mem_take um)); have hlk := hl _ (List.getElem_mem hk); rw [qF _ _ _ hk]; generalize (lists.take k).foldl gi [] = out at LH ⊢; obtain ⟨i1, _, i3⟩ := q9 lists[k].1 hlk; simp only [j2, sa, aw hk, cond_true]
   cases hb : pb lists[k].1
   · have l2 : aD fE (lists, out, ((k : Nat) : Int), (0 : Int), ()) = some (.inl (lists, out, ((k : Nat) : Int), ())) := by
       rw [je]
       by_cases h0 : (0 : Int) < ((List.length lists[k].1 : Nat) : Int)
       · simp only [fE, ma, aq, cond_true, az, List.getElem?_eq_getElem hk, Option.bind_some, ai h0, i1, hb, cond_false]
       · simp only [fE, ma, aq, cond_true, az, List.getElem?_eq_getElem hk, Option.bind_some, aj h0, cond_false]
     simp only [l2, cM, Option.bind_some, gi, hb, cond_false, aA (show k < 4611686018427387904 by omega)]
   · have n6 := vG (i3.1 hb); have l2 := bK (round := fE) (e := .inl (lists, lists[k].1.foldl qw out, ((k : Nat) : Int), ())) lists[k].1.length (fun j => (lists, (lists[k].1.take j).foldl qw out, ((k : Nat) : Int), ((j : Nat) : Int), ())) (by
       simp only [fE, ma, aq, cond_true, az, List.getElem?_eq_getElem hk, Option.bind_some, ax, cond_false, List.take_length]) (fun j hj => by
       have Sb := tQ (lists[k].1.take j) LH (fun r hr => n6 r (List.mem_of_mem_take hr)); have hp := Dv ((lists[k].1.take j).foldl qw out) lists[k].1[j] (sW Sb) (M8 Sb) (Rc (n6 _ (List.getElem_mem hj))); simp only [fE, ma, aq, cond_true, az, List.getElem?_eq_getElem hk, List.getElem?_eq_getElem hj, Option.bind_some, aw hj, i1, hb, hp, aA (show j < 4611686018427387904 by omega)]; rw [qF _ _ _ hj])
     have l2 : aD fE (lists, out, ((k : Nat) : Int), (0 : Int), ()) = _ := l2; simp only [l2, cM, Option.bind_some, gi, hb, cond_true, aA (show k < 4611686018427387904 by omega)])
 have l1 : aD j2 (lists, [], (0 : Int), ()) = _ := l1; unfold tw; rw [l1]; rfl
theorem GG (lists : List (bz × Unit)) (h : lists.length ≤ 1048576) (hl : ∀ l ∈ lists, l.1.length ≤ 1048576) : tF lists = some (sr lists, ()) := by
 have l1 := bK (round := j6) (e := .inl (sr lists, ())) lists.length (fun k => ((lists.take k).foldl gi [], lists, ((lists.length : Nat) : Int), ((k : Nat) : Int), ())) (by
   simp only [j6, sf, ax, cond_false, List.take_length]; rfl) (fun k hk => by
   have LH := mZ (lists.take k) (out := []) sV (fun l um => hl l (List.mem_of_mem_take um)); have hlk := hl _ (List.getElem_mem hk); rw [qF _ _ _ hk]; generalize (lists.take k).foldl gi [] = out at LH ⊢; obtain ⟨_, i2, i3⟩ := q9 lists[k].1 hlk; simp only [j6, sf, aw hk, cond_true, aq, az, List.getElem?_eq_getElem hk, Option.bind_some, i2]
   cases hb : pb lists[k].1
   · simp only [gi, hb, Bool.not_false, cond_true, cond_false, aA (show k < 4611686018427387904 by omega)]
   · have n6 := vG (i3.1 hb); have l2 := bK (round := j5) (e := .inl (lists[k].1.foldl qw out, lists, ((lists.length : Nat) : Int), ((k : Nat) : Int), ())) lists[k].1.length (fun j => ((lists[k].1.take j).foldl qw out, lists, ((lists.length : Nat) : Int), ((k : Nat) : Int), lists[k].1, ((lists[k].1.length : Nat) : Int), ((j : Nat) : Int), ())) (by
       simp only [j5, se, ax, cond_false, List.take_length]) (fun j hj => by
       have Sb := tQ (lists[k].1.take j) LH (fun r hr => n6 r (List.mem_of_mem_take hr)); have hp := Dw ((lists[k].1.take j).foldl qw out) lists[k].1[j] (sW Sb); simp only [j5, se, aq, cond_true, az, List.getElem?_eq_getElem hj, Option.bind_some, aw hj, hp, aA (show j < 4611686018427387904 by omega)]; rw [qF _ _ _ hj])
     have l2 : aD j5 (out, lists, ((lists.length : Nat) : Int), ((k : Nat) : Int), lists[k].1, ((lists[k].1.length : Nat) : Int), (0 : Int), ()) = _ := l2; simp only [l2, cM, Option.bind_some, gi, hb, Bool.not_true, cond_true, cond_false, aA (show k < 4611686018427387904 by omega)])
 have l1 : aD j6 ([], lists, ((lists.length : Nat) : Int), (0 : Int), ()) = _ := l1; unfold tF; rw [l1]; rfl
noncomputable def tR (xs : bz) : bz := xs.filter fun r => decide (r.1 ≤ ((lF xs : Nat) : Int))
theorem GH (xs : bz) (h : xs.length ≤ 1048576) : tz xs = some (tR xs, ()) := by
 obtain ⟨a1, _, _⟩ := GB xs h; have l1 := bK (round := j3) (e := .inl (tR xs, ())) xs.length (fun k => (xs, (xs.take k).filter (fun r => decide (r.1 ≤ ((lF xs : Nat) : Int))), ((lF xs : Nat) : Int), ((k : Nat) : Int), ())) (by
   simp only [j3, sb, ax, cond_false, List.take_length]; rfl) (fun k hk => by
   have hb := tP (fun r : jt => decide (r.1 ≤ ((lF xs : Nat) : Int))) xs k; rw [rL _ _ hk]; simp only [j3, sb, aw hk, aq, cond_true, az, List.getElem?_eq_getElem hk, Option.bind_some, aA (show k < 4611686018427387904 by omega), bh (show (((xs.take k).filter (fun r => decide (r.1 ≤ ((lF xs : Nat) : Int)))).length + 1) * 40 ≤ lim by unfold lim; omega)]
   by_cases h1 : xs[k].1 ≤ ((lF xs : Nat) : Int)
   · rw [ai h1]; rfl
   · rw [aj h1, if_neg (by decide), List.append_nil]; rfl)
 have l1 : aD j3 (xs, [], ((lF xs : Nat) : Int), (0 : Int), ()) = _ := l1; unfold tz; simp only [a1, Option.bind_some, l1, cM]
theorem GI (xs : bz) (h : xs.length ≤ 1048576) : tG xs = some (tR xs, ()) := by
 obtain ⟨_, a1, _⟩ := GB xs h; have l1 := bK (round := j7) (e := .inl (tR xs, ())) xs.length (fun k => (((lF xs : Nat) : Int), (xs.take k).filter (fun r => decide (r.1 ≤ ((lF xs : Nat) : Int))), xs, ((xs.length : Nat) : Int), ((k : Nat) : Int), ())) (by
   simp only [j7, sg, ax, cond_false, List.take_length]; rfl) (fun k hk => by
   have hb := tP (fun r : jt => decide (r.1 ≤ ((lF xs : Nat) : Int))) xs k; rw [rL _ _ hk]; simp only [j7, sg, aw hk, aq, cond_true, az, List.getElem?_eq_getElem hk, Option.bind_some, aA (show k < 4611686018427387904 by omega), bh (show (((xs.take k).filter (fun r => decide (r.1 ≤ ((lF xs : Nat) : Int)))).length + 1) * 40 ≤ lim by unfold lim; omega)]
   by_cases h1 : xs[k].1 ≤ ((lF xs : Nat) : Int)
   · rw [ai h1]; rfl
   · rw [aj h1, if_neg (by decide), List.append_nil]; rfl)
 have l1 : aD j7 (((lF xs : Nat) : Int), [], xs, ((xs.length : Nat) : Int), (0 : Int), ()) = _ := l1; unfold tG; simp only [a1, Option.bind_some, l1, cM]
noncomputable def fQ (xs : List fx) (c : Int) (d : Int × Unit) : bz × Unit := ((p7 (gh xs c d.1)).2.2.2.1, ())
noncomputable def rb (xs : List fx) (c : Int) (ms : lR) (id : Int) : bz := tR (sr ((dA xs c ms id).map (fQ xs c)))
noncomputable def sX (xs : List fx) (c : Int) (ms : lR) (id heard : Int) : bz :=
 match gh xs c id with
 | none => []
 | some gz => bif decide (gz.2.2.1 = 0) then [] else (rb xs c ms id).filter fun r => decide (heard < r.1)
theorem tS (xs : List fx) (c : Int) (h : iZ xs) (d : Int × Unit) : (fQ xs c d).1.length ≤ 1048576 := by
 have Jp := h.len; unfold fQ
 cases hb : gh xs c d.1 with
 | none => exact Nat.zero_le _
 | some b =>
   obtain ⟨k, hk, rfl⟩ := List.mem_iff_getElem.1 (yr hb).1; exact h.at hk
theorem Jh (aX : Int) (aY : lR) (xs : List fx) (id heard : Int) (h0 : aY.length ≤ 1048576) (h : iZ xs) : qC aX aY xs id heard = some (sX xs aX aY id heard, ()) := by
 have Jp := h.len; obtain ⟨t1, t2, t3⟩ := pA aX aY xs id h0 h; have hw : (dA xs aX aY id).length ≤ 1048576 := by omega
 have hls : ((dA xs aX aY id).map (fQ xs aX)).length ≤ 1048576 := by rw [List.length_map]; exact hw
 have Re : ∀ l ∈ (dA xs aX aY id).map (fQ xs aX), l.1.length ≤ 1048576 := fun l hl => by
   obtain ⟨d, _, rfl⟩ := List.mem_map.1 hl; exact tS xs aX h d
 have hu : (sr ((dA xs aX aY id).map (fQ xs aX))).length ≤ 1048576 := sW (mZ _ (out := []) sV Re); have hwl : (rb xs aX aY id).length ≤ 1048576 := Nat.le_trans (List.length_filter_le _ _) hu; unfold qC sX; rw [pa _ _ _ _ h]
 cases hm : gh xs aX id with
 | none => rfl
 | some gz =>
   by_cases ho : gz.2.2.1 = 0
   · simp only [p7, Option.bind_some, Bool.not_true, cond_false, Lo ho, cond_true]
   simp only [p7, Option.bind_some, Bool.not_true, cond_false, I4 ho, t1, t2]; have l1 := bK (round := jL) (e := .inl (heard, [], (dA xs aX aY id).map (fQ xs aX), ())) (dA xs aX aY id).length (fun k => (xs, heard, aX, aY, [], ((dA xs aX aY id).take k).map (fQ xs aX), dA xs aX aY id, ((k : Nat) : Int), ())) (by
     simp only [jL, nH, ax, cond_false, List.take_length]) (fun k hk => by
     simp only [jL, nH, aw hk, aq, cond_true, az, fJ hk, List.getElem?_eq_getElem hk, Option.bind_some, pa _ _ _ _ h, List.length_map, List.length_take, Nat.min_eq_left (Nat.le_of_lt hk), bh (show (k + 1) * 24 ≤ lim by unfold lim; omega), aA (show k < 4611686018427387904 by omega)]; rw [List.take_succ_eq_append_getElem hk, List.map_append]; rfl)
   have l1 : aD jL (xs, heard, aX, aY, [], [], dA xs aX aY id, (0 : Int), ()) = _ := l1; have l2 := bK (round := lq) (e := .inl ((rb xs aX aY id).filter (fun r => decide (heard < r.1)), ())) (rb xs aX aY id).length (fun k => (heard, ((rb xs aX aY id).take k).filter (fun r => decide (heard < r.1)), rb xs aX aY id, ((k : Nat) : Int), ())) (by
     simp only [lq, tE, ax, cond_false, List.take_length]) (fun k hk => by
     have hb := tP (fun r : jt => decide (heard < r.1)) (rb xs aX aY id) k; rw [rL _ _ hk]; simp only [lq, tE, aw hk, aq, cond_true, az, fJ hk, List.getElem?_eq_getElem hk, Option.bind_some, aA (show k < 4611686018427387904 by omega), bh (show ((((rb xs aX aY id).take k).filter (fun r => decide (heard < r.1))).length + 1) * 40 ≤ lim by unfold lim; omega)]
     by_cases h1 : heard < (rb xs aX aY id)[k].1
     · rw [ai h1]; rfl
     · rw [aj h1, if_neg (by decide), List.append_nil]; rfl)
   have l2 : aD lq (heard, [], tR (sr ((dA xs aX aY id).map (fQ xs aX))), (0 : Int), ()) = _ := l2; simp only [l1, cM, Option.bind_some, GF _ hls Re, GH _ hu, l2]
theorem Ji (aX : Int) (aY : lR) (xs : List fx) (id heard : Int) (h0 : aY.length ≤ 1048576) (h : iZ xs) : qD aX aY xs id heard = some (sX xs aX aY id heard, ()) := by
 have Jp := h.len; obtain ⟨t1, t2, t3⟩ := pA aX aY xs id h0 h; have hw : (dA xs aX aY id).length ≤ 1048576 := by omega
 have hls : ((dA xs aX aY id).map (fQ xs aX)).length ≤ 1048576 := by rw [List.length_map]; exact hw
 have Re : ∀ l ∈ (dA xs aX aY id).map (fQ xs aX), l.1.length ≤ 1048576 := fun l hl => by
   obtain ⟨d, _, rfl⟩ := List.mem_map.1 hl; exact tS xs aX h d
 have hu : (sr ((dA xs aX aY id).map (fQ xs aX))).length ≤ 1048576 := sW (mZ _ (out := []) sV Re); have hwl : (rb xs aX aY id).length ≤ 1048576 := Nat.le_trans (List.length_filter_le _ _) hu; unfold qD sX; rw [q8 _ _ _ _ h]
 cases hm : gh xs aX id with
 | none => rfl
 | some gz =>
   by_cases ho : gz.2.2.1 = 0
   · simp only [p7, Option.bind_some, Bool.not_true, cond_false, Lo ho, cond_true]
   simp only [p7, Option.bind_some, Bool.not_true, cond_false, I4 ho, t1, t2]; have l1 := bK (round := lx) (e := .inl (heard, (dA xs aX aY id).map (fQ xs aX), ())) (dA xs aX aY id).length (fun k => (xs, heard, aX, aY, ((dA xs aX aY id).take k).map (fQ xs aX), dA xs aX aY id, (((dA xs aX aY id).length : Nat) : Int), ((k : Nat) : Int), ())) (by
     simp only [lx, tH, ax, cond_false, List.take_length]) (fun k hk => by
     simp only [lx, tH, aw hk, aq, cond_true, az, fJ hk, List.getElem?_eq_getElem hk, Option.bind_some, q8 _ _ _ _ h, List.length_map, List.length_take, Nat.min_eq_left (Nat.le_of_lt hk), bh (show (k + 1) * 24 ≤ lim by unfold lim; omega), aA (show k < 4611686018427387904 by omega)]; rw [List.take_succ_eq_append_getElem hk, List.map_append]; rfl)
   have l1 : aD lx (xs, heard, aX, aY, [], dA xs aX aY id, (((dA xs aX aY id).length : Nat) : Int), (0 : Int), ()) = _ := l1; have l2 := bK (round := ly) (e := .inl ((rb xs aX aY id).filter (fun r => decide (heard < r.1)), ())) (rb xs aX aY id).length (fun k => (heard, ((rb xs aX aY id).take k).filter (fun r => decide (heard < r.1)), rb xs aX aY id, (((rb xs aX aY id).length : Nat) : Int), ((k : Nat) : Int), ())) (by
     simp only [ly, tI, ax, cond_false, List.take_length]) (fun k hk => by
     have hb := tP (fun r : jt => decide (heard < r.1)) (rb xs aX aY id) k; rw [rL _ _ hk]; simp only [ly, tI, aw hk, aq, cond_true, az, fJ hk, List.getElem?_eq_getElem hk, Option.bind_some, aA (show k < 4611686018427387904 by omega), bh (show ((((rb xs aX aY id).take k).filter (fun r => decide (heard < r.1))).length + 1) * 40 ≤ lim by unfold lim; omega)]
     by_cases h1 : heard < (rb xs aX aY id)[k].1
     · rw [ai h1]; rfl
     · rw [aj h1, if_neg (by decide), List.append_nil]; rfl)
   have l2 : aD ly (heard, [], tR (sr ((dA xs aX aY id).map (fQ xs aX))), (((tR (sr ((dA xs aX aY id).map (fQ xs aX)))).length : Nat) : Int), (0 : Int), ()) = _ := l2; simp only [l1, cM, Option.bind_some, GG _ hls Re, GI _ hu, l2]
theorem Jj (aX : Int) (aY : lR) (xs : List fx) (id heard : Int) (h0 : aY.length ≤ 1048576) (h : iZ xs) : qC aX aY xs id heard = some (sX xs aX aY id heard, ()) ∧ qD aX aY xs id heard = some (sX xs aX aY id heard, ()) := ⟨Jh _ _ _ _ _ h0 h, Ji _ _ _ _ _ h0 h⟩
theorem yw {α : Type} (f : α → Nat) (p : α → Bool) : (xs : List α) → wl f (xs.filter p) ≤ wl f xs
 | [] => Nat.le_refl _
 | x :: xs => by
   have := yw f p xs; rw [List.filter_cons]
   split
   · rw [nr, nr]; omega
   · rw [nr]; omega
theorem Jk (xs : List fx) (c : Int) (ms : lR) (id : Int) (h : iZ xs) : (rb xs c ms id).length ≤ 60 ∧ wl bn (rb xs c ms id) ≤ 3600 := by
 have Jp := h.len; have Re : ∀ l ∈ (dA xs c ms id).map (fQ xs c), l.1.length ≤ 1048576 := fun l hl => by
   obtain ⟨d, _, rfl⟩ := List.mem_map.1 hl; exact tS xs c h d
 have := rK _ (mZ _ (out := []) sV Re); unfold rb tR; exact ⟨Nat.le_trans (List.length_filter_le _ _) this.1, Nat.le_trans (yw _ _ _) this.2⟩
theorem GJ (xs : List fx) (c : Int) (ms : lR) (id heard : Int) (h : iZ xs) : (sX xs c ms id heard).length ≤ 60 ∧ wl bn (sX xs c ms id heard) ≤ 3600 := by
 have Jp := h.len; have := Jk xs c ms id h; unfold sX
 cases gh xs c id with
 | none => exact ⟨Nat.zero_le _, Nat.zero_le _⟩
 | some gz =>
   show (bif decide (gz.2.2.1 = 0) then [] else (rb xs c ms id).filter fun r => decide (heard < r.1)).length ≤ 60 ∧ wl bn (bif decide (gz.2.2.1 = 0) then [] else (rb xs c ms id).filter fun r => decide (heard < r.1)) ≤ 3600
   cases decide (gz.2.2.1 = 0)
   · exact ⟨Nat.le_trans (List.length_filter_le _ _) this.1, Nat.le_trans (yw _ _ _) this.2⟩
   · exact ⟨Nat.zero_le _, Nat.zero_le _⟩
end Go.TM
set_option linter.unusedSimpArgs false
set_option linter.unusedVariables false
namespace Go.TM
open Go
noncomputable def nZ (c : Int) (ms : List (Int × Unit)) (xs : List fx) : Bool := ms.all fun m => (gh xs c m.1).isSome
theorem LI (b : fx) (c id : Int) (ms : List (Int × Unit)) (h : b.2.2.2.1.length ≤ 1048576) : nL b.1 b.2.1 b.2.2.1 b.2.2.2.1 [(id, ())] [(c, ms, ())] = some (decide (b.1 = id) && (decide (b.2.1 = c) && nW b), ()) := by
 unfold nL; have h1 := (oZ b h).2; simp only [List.getElem?_cons_zero, Option.bind_some, h1]
 cases decide (b.1 = id)
 · rfl
 cases decide (b.2.1 = c)
 · rfl
 · rfl
theorem GK (xs : List fx) (c id : Int) (ms : List (Int × Unit)) (h : iZ xs) : du xs [([(id, ())], [(c, ms, ())], ())] = some ((gh xs c id).isSome, ()) := by
 have Jp := h.len; obtain ⟨e, he, hq⟩ := eH (round := cf) (x := (xs, [([(id, ())], [(c, ms, ())], ())], ((List.length xs : Nat) : Int), ((0 : Nat) : Int), ())) xs.length
   (fun k x => x = (xs, [([(id, ())], [(c, ms, ())], ())], ((List.length xs : Nat) : Int), ((k : Nat) : Int), ()) ∧ gh xs c id = gh (xs.drop k) c id)
   (fun e => (e = .inl () ∧ gh xs c id = none) ∨ (∃ j : Nat, e = .inr (((j : Nat) : Int), ()) ∧ (gh xs c id).isSome = true)) (by
     rintro x ⟨rfl, g⟩
     refine ⟨.inl (), by simp only [cf, eY, ax, cond_false], .inl ⟨rfl, ?_⟩⟩; rw [g, List.drop_length]; rfl) (by
     rintro k x hk ⟨rfl, g⟩
     rw [A6 xs c id hk] at g; have h1 := LI xs[k] c id ms (h.at hk); simp only [cf, eY, aw hk, aq, cond_true, az, List.getElem?_eq_getElem hk, List.getElem?_cons_zero, Option.bind_some, h1, aA (show k < 4611686018427387904 by omega)]
     cases hb : (decide (xs[k].1 = id) && (decide (xs[k].2.1 = c) && nW xs[k]))
     · rw [hb] at g; exact .inr ⟨_, rfl, rfl, g⟩
     · rw [hb] at g; exact .inl ⟨_, rfl, .inr ⟨k, rfl, by rw [g]; rfl⟩⟩) ⟨rfl, rfl⟩
 have he : aD cf (xs, [([(id, ())], [(c, ms, ())], ())], ((List.length xs : Nat) : Int), (0 : Int), ()) = some e := he; unfold du gn; rw [he]; rcases hq with ⟨rfl, q⟩ | ⟨j, rfl, q⟩
 · rw [q]; rfl
 · rw [q]; simp only [KI, Option.bind_some, aq]
theorem Dx (c : Int) (ms : List (Int × Unit)) (xs : List fx) (h0 : ms.length ≤ 1048576) (h : iZ xs) : nF c ms xs = some (nZ c ms xs, ()) ∧ nM c ms xs = some (nZ c ms xs, ()) := by
 have Jp := h.len; have E9 : ∀ {k : Nat} (hk : k < ms.length), nZ c (ms.drop k) xs = ((gh xs c ms[k].1).isSome && nZ c (ms.drop (k + 1)) xs) := fun hk => by
   unfold nZ; rw [List.drop_eq_getElem_cons hk, List.all_cons]
 have fin : ∀ {e : Sum Unit (Bool × Unit)} {b : Bool}, ((e = .inl () ∧ b = true) ∨ (e = .inr (false, ()) ∧ b = false)) → cM (some e) (fun _ => some (true, ())) (fun y => some (y.1, ())) = some (b, ()) := by
   rintro e b (⟨rfl, rfl⟩ | ⟨rfl, rfl⟩)
   · rfl
   · rfl
 constructor
 · obtain ⟨e, he, hq⟩ := eH (round := gl) (x := (xs, c, ms, ((0 : Nat) : Int), ())) ms.length
     (fun k x => x = (xs, c, ms, ((k : Nat) : Int), ()) ∧ nZ c ms xs = nZ c (ms.drop k) xs)
     (fun e => (e = .inl () ∧ nZ c ms xs = true) ∨ (e = .inr (false, ()) ∧ nZ c ms xs = false)) (by
       rintro x ⟨rfl, g⟩
       refine ⟨.inl (), by simp only [gl, jU, ax, cond_false], .inl ⟨rfl, ?_⟩⟩; rw [g, List.drop_length]; rfl) (by
       rintro k x hk ⟨rfl, g⟩
       rw [E9 hk] at g; simp only [gl, jU, aw hk, aq, cond_true, az, List.getElem?_eq_getElem hk, Option.bind_some, pa c ms xs _ h, aA (show k < 4611686018427387904 by omega)]
       cases hb : gh xs c ms[k].1 with
       | none =>
         rw [hb] at g; exact .inl ⟨_, rfl, .inr ⟨rfl, g⟩⟩
       | some b =>
         rw [hb] at g; exact .inr ⟨_, rfl, rfl, g⟩) ⟨rfl, rfl⟩
   have he : aD gl (xs, c, ms, (0 : Int), ()) = some e := he; unfold nF; rw [he]; exact fin hq
 · obtain ⟨e, he, hq⟩ := eH (round := iw) (x := (xs, [(c, ms, ())], ms, ((List.length ms : Nat) : Int), ((0 : Nat) : Int), ())) ms.length
     (fun k x => x = (xs, [(c, ms, ())], ms, ((List.length ms : Nat) : Int), ((k : Nat) : Int), ()) ∧ nZ c ms xs = nZ c (ms.drop k) xs)
     (fun e => (e = .inl () ∧ nZ c ms xs = true) ∨ (e = .inr (false, ()) ∧ nZ c ms xs = false)) (by
       rintro x ⟨rfl, g⟩
       refine ⟨.inl (), by simp only [iw, pZ, ax, cond_false], .inl ⟨rfl, ?_⟩⟩; rw [g, List.drop_length]; rfl) (by
       rintro k x hk ⟨rfl, g⟩
       rw [E9 hk] at g; simp only [iw, pZ, aw hk, aq, cond_true, az, List.getElem?_eq_getElem hk, Option.bind_some, GK xs c _ ms h, aA (show k < 4611686018427387904 by omega)]
       cases hb : (gh xs c ms[k].1).isSome
       · rw [hb] at g; exact .inl ⟨_, rfl, .inr ⟨rfl, g⟩⟩
       · rw [hb] at g; exact .inr ⟨_, rfl, rfl, g⟩) ⟨rfl, rfl⟩
   have he : aD iw (xs, [(c, ms, ())], ms, ((List.length ms : Nat) : Int), (0 : Int), ()) = some e := he; unfold nM; rw [he]; exact fin hq
end Go.TM
set_option linter.unusedSimpArgs false
set_option linter.unusedVariables false
namespace Go.TM
open Go
theorem Dy (c : Int) (xs : List (Int × Unit)) (id : Int) (h : xs.length ≤ 1048576) (hr : ee c xs = some (true, ())) (hm : (id, ()) ∈ xs) : dS id c xs = some (id, c, xs, [], [], [], 0, 0, 0, 0, 0, 0, 0, 0, 0, [], true, ()) := by
 unfold dS; simp only [hr, xE _ _ h, ai hm, Option.bind_some, Bool.not_true, cond_false, bh (show (0 + xs.length) * 8 ≤ lim by unfold lim; omega), cond_true, List.nil_append]
theorem Dz (c : Int) (xs : List (Int × Unit)) (id : Int) (h : xs.length ≤ 1048576) (hr : iJ c xs = some (true, ())) (hm : (id, ()) ∈ xs) : gI id c xs = some (id, c, xs, [], [], [], 0, 0, 0, 0, 0, 0, 0, 0, 0, [], true, ()) := by
 unfold gI cj; simp only [hr, Hr _ _ h, ai hm, Option.bind_some, Bool.not_true, cond_false, mX xs h]
end Go.TM
set_option linter.unusedSimpArgs false
set_option linter.unusedVariables false
namespace Go.TM
open Go
theorem xK (xs : List fx) (h : iZ xs) : eO xs = some (xs, ()) := by
 have Jp := h.len; have hl := bK (round := bN) (e := .inl (xs, ())) xs.length (fun k => (xs, xs.take k, ((k : Nat) : Int), ())) (by
   simp only [bN, eI, ax, cond_false, List.take_length]) (fun k hk => by
   simp only [bN, eI, aw hk, aq, cond_true, az, List.getElem?_eq_getElem hk, Option.bind_some, (mh xs[k] (h.at hk)).1, List.length_take, Nat.min_eq_left (Nat.le_of_lt hk), bh (show (k + 1) * 48 ≤ lim by unfold lim; omega), aA (show k < 4611686018427387904 by omega)]; rw [List.take_succ_eq_append_getElem hk])
 have hl : aD bN (xs, [], (0 : Int), ()) = _ := hl; unfold eO; rw [hl]; rfl
theorem Fa (xs : List WL) {k : Nat} (hk : k < xs.length) (h : xs.length + wl au xs ≤ 4194304) : xs[k].2.2.1.length ≤ 4194304 ∧ xs[k].2.2.2.2.2.2.2.1.length ≤ 4194304 := by
 have hw := pN au xs xs[k] (List.getElem_mem hk); have : au xs[k] = (List.length xs[k].2.2.1 + wl cX xs[k].2.2.1) + ByteArray.size xs[k].2.2.2.2.2.2.1 + (List.length xs[k].2.2.2.2.2.2.2.1 + wl cX xs[k].2.2.2.2.2.2.2.1) := rfl; omega
theorem yx (xs : List WL) (h : xs.length + wl au xs ≤ 4194304) : ft xs = some (xs, ()) := by
 have hl := bK (round := bZ) (e := .inl (xs, ())) xs.length (fun k => (xs, xs.take k, ((k : Nat) : Int), ())) (by
   simp only [bZ, fl, ax, cond_false, List.take_length]) (fun k hk => by
   obtain ⟨e1, e2⟩ := Fa xs hk h; simp only [bZ, fl, aw hk, aq, cond_true, az, List.getElem?_eq_getElem hk, Option.bind_some, List.length_take, Nat.min_eq_left (Nat.le_of_lt hk), bh (show (0 + xs[k].2.2.1.length) * 8 ≤ lim by unfold lim; omega), bh (show (0 + xs[k].2.2.2.2.2.2.2.1.length) * 8 ≤ lim by unfold lim; omega), bh (show (k + 1) * 104 ≤ lim by unfold lim; omega), aA (show k < 4611686018427387904 by omega), List.nil_append]; rw [List.take_succ_eq_append_getElem hk])
 have hl : aD bZ (xs, [], (0 : Int), ()) = _ := hl; unfold ft; rw [hl]; rfl
theorem Fb (d : na) (h1 : xH (fa d) ≤ 1048576) (h2 : d.2.2.2.2.2.2.2.2.2.2.2.2.2.2.2.2.2.2.2.2.2.1.length ≤ 1048576) (h3 : iZ d.2.2.2.2.2.2.2.2.2.2.2.2.2.2.2.2.2.2.2.2.2.2.1) (h4 : d.2.2.2.2.2.2.2.2.2.2.2.2.2.2.2.2.2.2.2.2.2.2.2.1.length + wl au d.2.2.2.2.2.2.2.2.2.2.2.2.2.2.2.2.2.2.2.2.2.2.2.1 ≤ 4194304) : fB d.1 d.2.1 d.2.2.1 d.2.2.2.1 d.2.2.2.2.1 d.2.2.2.2.2.1 d.2.2.2.2.2.2.1 d.2.2.2.2.2.2.2.1 d.2.2.2.2.2.2.2.2.1 d.2.2.2.2.2.2.2.2.2.1 d.2.2.2.2.2.2.2.2.2.2.1 d.2.2.2.2.2.2.2.2.2.2.2.1 d.2.2.2.2.2.2.2.2.2.2.2.2.1 d.2.2.2.2.2.2.2.2.2.2.2.2.2.1 d.2.2.2.2.2.2.2.2.2.2.2.2.2.2.1 d.2.2.2.2.2.2.2.2.2.2.2.2.2.2.2.1 d.2.2.2.2.2.2.2.2.2.2.2.2.2.2.2.2.1 d.2.2.2.2.2.2.2.2.2.2.2.2.2.2.2.2.2.1 d.2.2.2.2.2.2.2.2.2.2.2.2.2.2.2.2.2.2.1 d.2.2.2.2.2.2.2.2.2.2.2.2.2.2.2.2.2.2.2.1 d.2.2.2.2.2.2.2.2.2.2.2.2.2.2.2.2.2.2.2.2.1 d.2.2.2.2.2.2.2.2.2.2.2.2.2.2.2.2.2.2.2.2.2.1 d.2.2.2.2.2.2.2.2.2.2.2.2.2.2.2.2.2.2.2.2.2.2.1 d.2.2.2.2.2.2.2.2.2.2.2.2.2.2.2.2.2.2.2.2.2.2.2.1 = some d := by
 have p : lk d.2.2.1 d.2.2.2.1 d.2.2.2.2.1 d.2.2.2.2.2.1 d.2.2.2.2.2.2.1 d.2.2.2.2.2.2.2.1 d.2.2.2.2.2.2.2.2.1 d.2.2.2.2.2.2.2.2.2.1 d.2.2.2.2.2.2.2.2.2.2.1 d.2.2.2.2.2.2.2.2.2.2.2.1 d.2.2.2.2.2.2.2.2.2.2.2.2.1 d.2.2.2.2.2.2.2.2.2.2.2.2.2.1 d.2.2.2.2.2.2.2.2.2.2.2.2.2.2.1 d.2.2.2.2.2.2.2.2.2.2.2.2.2.2.2.1 d.2.2.2.2.2.2.2.2.2.2.2.2.2.2.2.2.1 d.2.2.2.2.2.2.2.2.2.2.2.2.2.2.2.2.2.1 = some (d.2.2.1, d.2.2.2.1, d.2.2.2.2.1, d.2.2.2.2.2.1, d.2.2.2.2.2.2.1, d.2.2.2.2.2.2.2.1, d.2.2.2.2.2.2.2.2.1, d.2.2.2.2.2.2.2.2.2.1, d.2.2.2.2.2.2.2.2.2.2.1, d.2.2.2.2.2.2.2.2.2.2.2.1, d.2.2.2.2.2.2.2.2.2.2.2.2.1, d.2.2.2.2.2.2.2.2.2.2.2.2.2.1, d.2.2.2.2.2.2.2.2.2.2.2.2.2.2.1, d.2.2.2.2.2.2.2.2.2.2.2.2.2.2.2.1, d.2.2.2.2.2.2.2.2.2.2.2.2.2.2.2.2.1, d.2.2.2.2.2.2.2.2.2.2.2.2.2.2.2.2.2.1, ()) ∧ j4 d.2.2.1 d.2.2.2.1 d.2.2.2.2.1 d.2.2.2.2.2.1 d.2.2.2.2.2.2.1 d.2.2.2.2.2.2.2.1 d.2.2.2.2.2.2.2.2.1 d.2.2.2.2.2.2.2.2.2.1 d.2.2.2.2.2.2.2.2.2.2.1 d.2.2.2.2.2.2.2.2.2.2.2.1 d.2.2.2.2.2.2.2.2.2.2.2.2.1 d.2.2.2.2.2.2.2.2.2.2.2.2.2.1 d.2.2.2.2.2.2.2.2.2.2.2.2.2.2.1 d.2.2.2.2.2.2.2.2.2.2.2.2.2.2.2.1 d.2.2.2.2.2.2.2.2.2.2.2.2.2.2.2.2.1 d.2.2.2.2.2.2.2.2.2.2.2.2.2.2.2.2.2.1 = some (d.2.2.1, d.2.2.2.1, d.2.2.2.2.1, d.2.2.2.2.2.1, d.2.2.2.2.2.2.1, d.2.2.2.2.2.2.2.1, d.2.2.2.2.2.2.2.2.1, d.2.2.2.2.2.2.2.2.2.1, d.2.2.2.2.2.2.2.2.2.2.1, d.2.2.2.2.2.2.2.2.2.2.2.1, d.2.2.2.2.2.2.2.2.2.2.2.2.1, d.2.2.2.2.2.2.2.2.2.2.2.2.2.1, d.2.2.2.2.2.2.2.2.2.2.2.2.2.2.1, d.2.2.2.2.2.2.2.2.2.2.2.2.2.2.2.1, d.2.2.2.2.2.2.2.2.2.2.2.2.2.2.2.2.1, d.2.2.2.2.2.2.2.2.2.2.2.2.2.2.2.2.2.1, ()) := zb d.2.2.1 d.2.2.2.1 d.2.2.2.2.1 d.2.2.2.2.2.1 d.2.2.2.2.2.2.1 d.2.2.2.2.2.2.2.1 d.2.2.2.2.2.2.2.2.1 d.2.2.2.2.2.2.2.2.2.1 d.2.2.2.2.2.2.2.2.2.2.1 d.2.2.2.2.2.2.2.2.2.2.2.1 d.2.2.2.2.2.2.2.2.2.2.2.2.1 d.2.2.2.2.2.2.2.2.2.2.2.2.2.1 d.2.2.2.2.2.2.2.2.2.2.2.2.2.2.1 d.2.2.2.2.2.2.2.2.2.2.2.2.2.2.2.1 d.2.2.2.2.2.2.2.2.2.2.2.2.2.2.2.2.1 d.2.2.2.2.2.2.2.2.2.2.2.2.2.2.2.2.2.1 h1; unfold fB; simp only [p.1, xK d.2.2.2.2.2.2.2.2.2.2.2.2.2.2.2.2.2.2.2.2.2.2.1 h3, yx d.2.2.2.2.2.2.2.2.2.2.2.2.2.2.2.2.2.2.2.2.2.2.2.1 h4, Option.bind_some, bh (show (0 + (d.2.2.2.2.2.2.2.2.2.2.2.2.2.2.2.2.2.2.2.2.2.1).length) * 8 ≤ lim by unfold lim; omega), cond_true, List.nil_append]
noncomputable def Fc (d : na) : List zx := [(2, d.2.2.2.1, d.2.2.2.2.1, 0, 0, 0, ByteArray.empty, dA d.2.2.2.2.2.2.2.2.2.2.2.2.2.2.2.2.2.2.2.2.2.2.1 d.2.2.2.2.2.2.2.2.2.2.2.2.2.2.2.2.2.2.2.2.1 d.2.2.2.2.2.2.2.2.2.2.2.2.2.2.2.2.2.2.2.2.2.1 d.1, ())] ++ jv d.2.2.2.1 d.2.2.2.2.1 (sX d.2.2.2.2.2.2.2.2.2.2.2.2.2.2.2.2.2.2.2.2.2.2.1 d.2.2.2.2.2.2.2.2.2.2.2.2.2.2.2.2.2.2.2.2.1 d.2.2.2.2.2.2.2.2.2.2.2.2.2.2.2.2.2.2.2.2.2.1 d.1 d.2.2.2.2.2.2.2.2.2.2.2.1)
noncomputable def Cr (d : na) : List zx := bif decide (0 < d.2.2.2.2.2.2.2.2.2.2.2.2.2.2.2.2.2.2.2.1) then d.2.2.2.2.2.2.2.2.2.2.2.2.2.2.2.2.2.2.2.2.2.2.2.1 ++ Fc d else d.2.2.2.2.2.2.2.2.2.2.2.2.2.2.2.2.2.2.2.2.2.2.2.1
noncomputable def eg (d : na) : na := (d.1, d.2.1, d.1, d.2.2.2.2.2.2.2.2.2.2.2.2.2.2.2.2.2.2.2.2.1, d.2.2.2.2.2.2.2.2.2.2.2.2.2.2.2.2.2.2.2.2.2.1, [], d.2.2.2.2.2.2.1, d.2.2.2.2.2.2.2.1, 0, 0, 0, 0, 0, 0, 0, 0, 0, [], d.2.2.2.2.2.2.2.2.2.2.2.2.2.2.2.2.2.2.1, d.2.2.2.2.2.2.2.2.2.2.2.2.2.2.2.2.2.2.2.2.1, 0, [], [], Cr d ++ [(3, d.2.2.2.2.2.2.2.2.2.2.2.2.2.2.2.2.2.2.2.2.1, d.2.2.2.2.2.2.2.2.2.2.2.2.2.2.2.2.2.2.2.2.2.1, 0, 0, 0, ByteArray.empty, d.2.2.2.2.2.2.2.2.2.2.2.2.2.2.2.2.2.2.2.2.2.1, ())], ())
def Bb (d : na) : List zx := d.2.2.2.2.2.2.2.2.2.2.2.2.2.2.2.2.2.2.2.2.2.2.2.1
def mw (d : na) (l : List zx) : na := (d.1, d.2.1, d.2.2.1, d.2.2.2.1, d.2.2.2.2.1, d.2.2.2.2.2.1, d.2.2.2.2.2.2.1, d.2.2.2.2.2.2.2.1, d.2.2.2.2.2.2.2.2.1, d.2.2.2.2.2.2.2.2.2.1, d.2.2.2.2.2.2.2.2.2.2.1, d.2.2.2.2.2.2.2.2.2.2.2.1, d.2.2.2.2.2.2.2.2.2.2.2.2.1, d.2.2.2.2.2.2.2.2.2.2.2.2.2.1, d.2.2.2.2.2.2.2.2.2.2.2.2.2.2.1, d.2.2.2.2.2.2.2.2.2.2.2.2.2.2.2.1, d.2.2.2.2.2.2.2.2.2.2.2.2.2.2.2.2.1, d.2.2.2.2.2.2.2.2.2.2.2.2.2.2.2.2.2.1, d.2.2.2.2.2.2.2.2.2.2.2.2.2.2.2.2.2.2.1, d.2.2.2.2.2.2.2.2.2.2.2.2.2.2.2.2.2.2.2.1, d.2.2.2.2.2.2.2.2.2.2.2.2.2.2.2.2.2.2.2.2.1, d.2.2.2.2.2.2.2.2.2.2.2.2.2.2.2.2.2.2.2.2.2.1, d.2.2.2.2.2.2.2.2.2.2.2.2.2.2.2.2.2.2.2.2.2.2.1, l, ())
theorem DA (d : na) (c : Int) (ms : lR) (l : bz) (hr : ms.length ≤ 1048576) (hl : l.length ≤ 1048576) (hg : d.2.2.2.2.2.2.2.2.2.2.2.2.2.2.2.2.2.2.2.2.2.2.2.1.length ≤ 1048577) : aD cV (d.1, d.2.1, d.2.2.1, d.2.2.2.1, d.2.2.2.2.1, d.2.2.2.2.2.1, d.2.2.2.2.2.2.1, d.2.2.2.2.2.2.2.1, d.2.2.2.2.2.2.2.2.1, d.2.2.2.2.2.2.2.2.2.1, d.2.2.2.2.2.2.2.2.2.2.1, d.2.2.2.2.2.2.2.2.2.2.2.1, d.2.2.2.2.2.2.2.2.2.2.2.2.1, d.2.2.2.2.2.2.2.2.2.2.2.2.2.1, d.2.2.2.2.2.2.2.2.2.2.2.2.2.2.1, d.2.2.2.2.2.2.2.2.2.2.2.2.2.2.2.1, d.2.2.2.2.2.2.2.2.2.2.2.2.2.2.2.2.1, d.2.2.2.2.2.2.2.2.2.2.2.2.2.2.2.2.2.1, d.2.2.2.2.2.2.2.2.2.2.2.2.2.2.2.2.2.2.1, d.2.2.2.2.2.2.2.2.2.2.2.2.2.2.2.2.2.2.2.1, d.2.2.2.2.2.2.2.2.2.2.2.2.2.2.2.2.2.2.2.2.1, d.2.2.2.2.2.2.2.2.2.2.2.2.2.2.2.2.2.2.2.2.2.1, d.2.2.2.2.2.2.2.2.2.2.2.2.2.2.2.2.2.2.2.2.2.2.1, d.2.2.2.2.2.2.2.2.2.2.2.2.2.2.2.2.2.2.2.2.2.2.2.1, c, ms, l, (0 : Int), ()) = some (.inl (mw d (d.2.2.2.2.2.2.2.2.2.2.2.2.2.2.2.2.2.2.2.2.2.2.2.1 ++ jv c ms l))) := by
 have l1 := bK (round := cV) (e := .inl (mw d (d.2.2.2.2.2.2.2.2.2.2.2.2.2.2.2.2.2.2.2.2.2.2.2.1 ++ jv c ms l))) l.length (fun k => (d.1, d.2.1, d.2.2.1, d.2.2.2.1, d.2.2.2.2.1, d.2.2.2.2.2.1, d.2.2.2.2.2.2.1, d.2.2.2.2.2.2.2.1, d.2.2.2.2.2.2.2.2.1, d.2.2.2.2.2.2.2.2.2.1, d.2.2.2.2.2.2.2.2.2.2.1, d.2.2.2.2.2.2.2.2.2.2.2.1, d.2.2.2.2.2.2.2.2.2.2.2.2.1, d.2.2.2.2.2.2.2.2.2.2.2.2.2.1, d.2.2.2.2.2.2.2.2.2.2.2.2.2.2.1, d.2.2.2.2.2.2.2.2.2.2.2.2.2.2.2.1, d.2.2.2.2.2.2.2.2.2.2.2.2.2.2.2.2.1, d.2.2.2.2.2.2.2.2.2.2.2.2.2.2.2.2.2.1, d.2.2.2.2.2.2.2.2.2.2.2.2.2.2.2.2.2.2.1, d.2.2.2.2.2.2.2.2.2.2.2.2.2.2.2.2.2.2.2.1, d.2.2.2.2.2.2.2.2.2.2.2.2.2.2.2.2.2.2.2.2.1, d.2.2.2.2.2.2.2.2.2.2.2.2.2.2.2.2.2.2.2.2.2.1, d.2.2.2.2.2.2.2.2.2.2.2.2.2.2.2.2.2.2.2.2.2.2.1, d.2.2.2.2.2.2.2.2.2.2.2.2.2.2.2.2.2.2.2.2.2.2.2.1 ++ jv c ms (l.take k), c, ms, l, ((k : Nat) : Int), ())) (by
   simp only [cV, mG, ax, cond_false, List.take_length, mw]) (fun k hk => by
   have hlen : (d.2.2.2.2.2.2.2.2.2.2.2.2.2.2.2.2.2.2.2.2.2.2.2.1 ++ jv c ms (l.take k)).length ≤ 1048577 + 1048576 := by
     rw [List.length_append, vH, List.length_take]; omega
   simp only [cV, mG, aw hk, aq, cond_true, az, fJ hk, List.getElem?_eq_getElem hk, Option.bind_some, sq _ _ hr, bh (show ((d.2.2.2.2.2.2.2.2.2.2.2.2.2.2.2.2.2.2.2.2.2.2.2.1 ++ jv c ms (l.take k)).length + 1) * 104 ≤ lim by unfold lim; omega), aA (show k < 4611686018427387904 by omega)]; rw [E8 hk])
 have l1 : aD cV (d.1, d.2.1, d.2.2.1, d.2.2.2.1, d.2.2.2.2.1, d.2.2.2.2.2.1, d.2.2.2.2.2.2.1, d.2.2.2.2.2.2.2.1, d.2.2.2.2.2.2.2.2.1, d.2.2.2.2.2.2.2.2.2.1, d.2.2.2.2.2.2.2.2.2.2.1, d.2.2.2.2.2.2.2.2.2.2.2.1, d.2.2.2.2.2.2.2.2.2.2.2.2.1, d.2.2.2.2.2.2.2.2.2.2.2.2.2.1, d.2.2.2.2.2.2.2.2.2.2.2.2.2.2.1, d.2.2.2.2.2.2.2.2.2.2.2.2.2.2.2.1, d.2.2.2.2.2.2.2.2.2.2.2.2.2.2.2.2.1, d.2.2.2.2.2.2.2.2.2.2.2.2.2.2.2.2.2.1, d.2.2.2.2.2.2.2.2.2.2.2.2.2.2.2.2.2.2.1, d.2.2.2.2.2.2.2.2.2.2.2.2.2.2.2.2.2.2.2.1, d.2.2.2.2.2.2.2.2.2.2.2.2.2.2.2.2.2.2.2.2.1, d.2.2.2.2.2.2.2.2.2.2.2.2.2.2.2.2.2.2.2.2.2.1, d.2.2.2.2.2.2.2.2.2.2.2.2.2.2.2.2.2.2.2.2.2.2.1, d.2.2.2.2.2.2.2.2.2.2.2.2.2.2.2.2.2.2.2.2.2.2.2.1 ++ jv c ms (l.take 0), c, ms, l, (0 : Int), ()) = _ := l1; rw [show jv c ms (l.take 0) = [] from rfl, List.append_nil] at l1; exact l1
theorem Jl (d : na) (l : bz) (hr : d.2.2.2.2.1.length ≤ 1048576) (hl : l.length ≤ 1048576) (hg : d.2.2.2.2.2.2.2.2.2.2.2.2.2.2.2.2.2.2.2.2.2.2.2.1.length ≤ 1048577) : gY d.1 d.2.1 d.2.2.1 d.2.2.2.1 d.2.2.2.2.1 d.2.2.2.2.2.1 d.2.2.2.2.2.2.1 d.2.2.2.2.2.2.2.1 d.2.2.2.2.2.2.2.2.1 d.2.2.2.2.2.2.2.2.2.1 d.2.2.2.2.2.2.2.2.2.2.1 d.2.2.2.2.2.2.2.2.2.2.2.1 d.2.2.2.2.2.2.2.2.2.2.2.2.1 d.2.2.2.2.2.2.2.2.2.2.2.2.2.1 d.2.2.2.2.2.2.2.2.2.2.2.2.2.2.1 d.2.2.2.2.2.2.2.2.2.2.2.2.2.2.2.1 d.2.2.2.2.2.2.2.2.2.2.2.2.2.2.2.2.1 d.2.2.2.2.2.2.2.2.2.2.2.2.2.2.2.2.2.1 d.2.2.2.2.2.2.2.2.2.2.2.2.2.2.2.2.2.2.1 d.2.2.2.2.2.2.2.2.2.2.2.2.2.2.2.2.2.2.2.1 d.2.2.2.2.2.2.2.2.2.2.2.2.2.2.2.2.2.2.2.2.1 d.2.2.2.2.2.2.2.2.2.2.2.2.2.2.2.2.2.2.2.2.2.1 d.2.2.2.2.2.2.2.2.2.2.2.2.2.2.2.2.2.2.2.2.2.2.1 d.2.2.2.2.2.2.2.2.2.2.2.2.2.2.2.2.2.2.2.2.2.2.2.1 l = some (mw d (d.2.2.2.2.2.2.2.2.2.2.2.2.2.2.2.2.2.2.2.2.2.2.2.1 ++ jv d.2.2.2.1 d.2.2.2.2.1 l)) := by
 have l1 := bK (round := eQ) (e := .inl (mw d (d.2.2.2.2.2.2.2.2.2.2.2.2.2.2.2.2.2.2.2.2.2.2.2.1 ++ jv d.2.2.2.1 d.2.2.2.2.1 l))) l.length (fun k => (d.1, d.2.1, d.2.2.1, d.2.2.2.1, d.2.2.2.2.1, d.2.2.2.2.2.1, d.2.2.2.2.2.2.1, d.2.2.2.2.2.2.2.1, d.2.2.2.2.2.2.2.2.1, d.2.2.2.2.2.2.2.2.2.1, d.2.2.2.2.2.2.2.2.2.2.1, d.2.2.2.2.2.2.2.2.2.2.2.1, d.2.2.2.2.2.2.2.2.2.2.2.2.1, d.2.2.2.2.2.2.2.2.2.2.2.2.2.1, d.2.2.2.2.2.2.2.2.2.2.2.2.2.2.1, d.2.2.2.2.2.2.2.2.2.2.2.2.2.2.2.1, d.2.2.2.2.2.2.2.2.2.2.2.2.2.2.2.2.1, d.2.2.2.2.2.2.2.2.2.2.2.2.2.2.2.2.2.1, d.2.2.2.2.2.2.2.2.2.2.2.2.2.2.2.2.2.2.1, d.2.2.2.2.2.2.2.2.2.2.2.2.2.2.2.2.2.2.2.1, d.2.2.2.2.2.2.2.2.2.2.2.2.2.2.2.2.2.2.2.2.1, d.2.2.2.2.2.2.2.2.2.2.2.2.2.2.2.2.2.2.2.2.2.1, d.2.2.2.2.2.2.2.2.2.2.2.2.2.2.2.2.2.2.2.2.2.2.1, d.2.2.2.2.2.2.2.2.2.2.2.2.2.2.2.2.2.2.2.2.2.2.2.1 ++ jv d.2.2.2.1 d.2.2.2.2.1 (l.take k), l, ((List.length l : Nat) : Int), ((k : Nat) : Int), ())) (by
   simp only [eQ, lK, ax, cond_false, List.take_length, mw]) (fun k hk => by
   have hlen : (d.2.2.2.2.2.2.2.2.2.2.2.2.2.2.2.2.2.2.2.2.2.2.2.1 ++ jv d.2.2.2.1 d.2.2.2.2.1 (l.take k)).length ≤ 1048577 + 1048576 := by
     rw [List.length_append, vH, List.length_take]; omega
   simp only [eQ, lK, aw hk, aq, cond_true, az, List.getElem?_eq_getElem hk, Option.bind_some, pB _ _ hr, bh (show ((d.2.2.2.2.2.2.2.2.2.2.2.2.2.2.2.2.2.2.2.2.2.2.2.1 ++ jv d.2.2.2.1 d.2.2.2.2.1 (l.take k)).length + 1) * 104 ≤ lim by unfold lim; omega), aA (show k < 4611686018427387904 by omega)]; rw [E8 hk])
 have l1 : aD eQ (d.1, d.2.1, d.2.2.1, d.2.2.2.1, d.2.2.2.2.1, d.2.2.2.2.2.1, d.2.2.2.2.2.2.1, d.2.2.2.2.2.2.2.1, d.2.2.2.2.2.2.2.2.1, d.2.2.2.2.2.2.2.2.2.1, d.2.2.2.2.2.2.2.2.2.2.1, d.2.2.2.2.2.2.2.2.2.2.2.1, d.2.2.2.2.2.2.2.2.2.2.2.2.1, d.2.2.2.2.2.2.2.2.2.2.2.2.2.1, d.2.2.2.2.2.2.2.2.2.2.2.2.2.2.1, d.2.2.2.2.2.2.2.2.2.2.2.2.2.2.2.1, d.2.2.2.2.2.2.2.2.2.2.2.2.2.2.2.2.1, d.2.2.2.2.2.2.2.2.2.2.2.2.2.2.2.2.2.1, d.2.2.2.2.2.2.2.2.2.2.2.2.2.2.2.2.2.2.1, d.2.2.2.2.2.2.2.2.2.2.2.2.2.2.2.2.2.2.2.1, d.2.2.2.2.2.2.2.2.2.2.2.2.2.2.2.2.2.2.2.2.1, d.2.2.2.2.2.2.2.2.2.2.2.2.2.2.2.2.2.2.2.2.2.1, d.2.2.2.2.2.2.2.2.2.2.2.2.2.2.2.2.2.2.2.2.2.2.1, d.2.2.2.2.2.2.2.2.2.2.2.2.2.2.2.2.2.2.2.2.2.2.2.1 ++ jv d.2.2.2.1 d.2.2.2.2.1 (l.take 0), l, ((List.length l : Nat) : Int), (0 : Int), ()) = _ := l1; rw [show jv d.2.2.2.1 d.2.2.2.2.1 (l.take 0) = [] from rfl, List.append_nil] at l1; unfold gY; rw [l1]; rfl
theorem Cs (xs : List fx) (c : Int) (ms : lR) (id heard : Int) (h : iZ xs) : (sX xs c ms id heard).length ≤ 60 ∧ wl bn (sX xs c ms id heard) ≤ 3600 := GJ xs c ms id heard h
theorem xL (d : na) (hr : xG d.2.2.2.2.2.2.2.2.2.2.2.2.2.2.2.2.2.2.2.2.1 d.2.2.2.2.2.2.2.2.2.2.2.2.2.2.2.2.2.2.2.2.2.1) (hm : (d.1, ()) ∈ d.2.2.2.2.2.2.2.2.2.2.2.2.2.2.2.2.2.2.2.2.2.1) (h3 : iZ d.2.2.2.2.2.2.2.2.2.2.2.2.2.2.2.2.2.2.2.2.2.2.1) (h4 : d.2.2.2.2.1.length ≤ 1048576) (hg : d.2.2.2.2.2.2.2.2.2.2.2.2.2.2.2.2.2.2.2.2.2.2.2.1.length ≤ 1048576) : dU d.1 d.2.1 d.2.2.1 d.2.2.2.1 d.2.2.2.2.1 d.2.2.2.2.2.1 d.2.2.2.2.2.2.1 d.2.2.2.2.2.2.2.1 d.2.2.2.2.2.2.2.2.1 d.2.2.2.2.2.2.2.2.2.1 d.2.2.2.2.2.2.2.2.2.2.1 d.2.2.2.2.2.2.2.2.2.2.2.1 d.2.2.2.2.2.2.2.2.2.2.2.2.1 d.2.2.2.2.2.2.2.2.2.2.2.2.2.1 d.2.2.2.2.2.2.2.2.2.2.2.2.2.2.1 d.2.2.2.2.2.2.2.2.2.2.2.2.2.2.2.1 d.2.2.2.2.2.2.2.2.2.2.2.2.2.2.2.2.1 d.2.2.2.2.2.2.2.2.2.2.2.2.2.2.2.2.2.1 d.2.2.2.2.2.2.2.2.2.2.2.2.2.2.2.2.2.2.1 d.2.2.2.2.2.2.2.2.2.2.2.2.2.2.2.2.2.2.2.1 d.2.2.2.2.2.2.2.2.2.2.2.2.2.2.2.2.2.2.2.2.1 d.2.2.2.2.2.2.2.2.2.2.2.2.2.2.2.2.2.2.2.2.2.1 d.2.2.2.2.2.2.2.2.2.2.2.2.2.2.2.2.2.2.2.2.2.2.1 d.2.2.2.2.2.2.2.2.2.2.2.2.2.2.2.2.2.2.2.2.2.2.2.1 = some (eg d) ∧ cQ d.1 d.2.1 d.2.2.1 d.2.2.2.1 d.2.2.2.2.1 d.2.2.2.2.2.1 d.2.2.2.2.2.2.1 d.2.2.2.2.2.2.2.1 d.2.2.2.2.2.2.2.2.1 d.2.2.2.2.2.2.2.2.2.1 d.2.2.2.2.2.2.2.2.2.2.1 d.2.2.2.2.2.2.2.2.2.2.2.1 d.2.2.2.2.2.2.2.2.2.2.2.2.1 d.2.2.2.2.2.2.2.2.2.2.2.2.2.1 d.2.2.2.2.2.2.2.2.2.2.2.2.2.2.1 d.2.2.2.2.2.2.2.2.2.2.2.2.2.2.2.1 d.2.2.2.2.2.2.2.2.2.2.2.2.2.2.2.2.1 d.2.2.2.2.2.2.2.2.2.2.2.2.2.2.2.2.2.1 d.2.2.2.2.2.2.2.2.2.2.2.2.2.2.2.2.2.2.1 d.2.2.2.2.2.2.2.2.2.2.2.2.2.2.2.2.2.2.2.1 d.2.2.2.2.2.2.2.2.2.2.2.2.2.2.2.2.2.2.2.2.1 d.2.2.2.2.2.2.2.2.2.2.2.2.2.2.2.2.2.2.2.2.2.1 d.2.2.2.2.2.2.2.2.2.2.2.2.2.2.2.2.2.2.2.2.2.2.1 d.2.2.2.2.2.2.2.2.2.2.2.2.2.2.2.2.2.2.2.2.2.2.2.1 = some (eg d) := by
 have h5 := hr.2.1.2; have h5 : d.2.2.2.2.2.2.2.2.2.2.2.2.2.2.2.2.2.2.2.2.2.1.length ≤ 1048576 := by omega
 obtain ⟨q1, q2, q3⟩ := Dt d.2.2.2.2.2.2.2.2.2.2.2.2.2.2.2.2.2.2.2.2.1 d.2.2.2.2.2.2.2.2.2.2.2.2.2.2.2.2.2.2.2.2.2.1 h5; rw [q3.2 hr] at q1 q2; have m1 := Dy d.2.2.2.2.2.2.2.2.2.2.2.2.2.2.2.2.2.2.2.2.1 d.2.2.2.2.2.2.2.2.2.2.2.2.2.2.2.2.2.2.2.2.2.1 d.1 h5 q1 hm; have m2 := Dz d.2.2.2.2.2.2.2.2.2.2.2.2.2.2.2.2.2.2.2.2.1 d.2.2.2.2.2.2.2.2.2.2.2.2.2.2.2.2.2.2.2.2.2.1 d.1 h5 q2 hm; obtain ⟨t1, t2, t3⟩ := pA d.2.2.2.2.2.2.2.2.2.2.2.2.2.2.2.2.2.2.2.2.1 d.2.2.2.2.2.2.2.2.2.2.2.2.2.2.2.2.2.2.2.2.2.1 d.2.2.2.2.2.2.2.2.2.2.2.2.2.2.2.2.2.2.2.2.2.2.1 d.1 h5 h3; obtain ⟨r1, r2⟩ := Jj d.2.2.2.2.2.2.2.2.2.2.2.2.2.2.2.2.2.2.2.2.1 d.2.2.2.2.2.2.2.2.2.2.2.2.2.2.2.2.2.2.2.2.2.1 d.2.2.2.2.2.2.2.2.2.2.2.2.2.2.2.2.2.2.2.2.2.2.1 d.1 d.2.2.2.2.2.2.2.2.2.2.2.1 h5 h3; obtain ⟨z1, z2⟩ := Cs d.2.2.2.2.2.2.2.2.2.2.2.2.2.2.2.2.2.2.2.2.2.2.1 d.2.2.2.2.2.2.2.2.2.2.2.2.2.2.2.2.2.2.2.2.1 d.2.2.2.2.2.2.2.2.2.2.2.2.2.2.2.2.2.2.2.2.2.1 d.1 d.2.2.2.2.2.2.2.2.2.2.2.1 h3; have c1 := mX d.2.2.2.2.2.2.2.2.2.2.2.2.2.2.2.2.2.2.2.2.2.1 h5; have c2 := pB d.2.2.2.2.2.2.2.2.2.2.2.2.2.2.2.2.2.2.2.2.1 d.2.2.2.2.2.2.2.2.2.2.2.2.2.2.2.2.2.2.2.2.2.1 h5; have c3 := sq d.2.2.2.2.2.2.2.2.2.2.2.2.2.2.2.2.2.2.2.2.1 d.2.2.2.2.2.2.2.2.2.2.2.2.2.2.2.2.2.2.2.2.2.1 h5; have c4 := pB d.2.2.2.1 d.2.2.2.2.1 h4; have c5 := sq d.2.2.2.1 d.2.2.2.2.1 h4; generalize eU : sX d.2.2.2.2.2.2.2.2.2.2.2.2.2.2.2.2.2.2.2.2.2.2.1 d.2.2.2.2.2.2.2.2.2.2.2.2.2.2.2.2.2.2.2.2.1 d.2.2.2.2.2.2.2.2.2.2.2.2.2.2.2.2.2.2.2.2.2.1 d.1 d.2.2.2.2.2.2.2.2.2.2.2.1 = rest at *; generalize WS : dA d.2.2.2.2.2.2.2.2.2.2.2.2.2.2.2.2.2.2.2.2.2.2.1 d.2.2.2.2.2.2.2.2.2.2.2.2.2.2.2.2.2.2.2.2.1 d.2.2.2.2.2.2.2.2.2.2.2.2.2.2.2.2.2.2.2.2.2.1 d.1 = zf at *; have hlen : (d.2.2.2.2.2.2.2.2.2.2.2.2.2.2.2.2.2.2.2.2.2.2.2.1 ++ [((2, d.2.2.2.1, d.2.2.2.2.1, 0, 0, 0, ByteArray.empty, zf, ()) : zx)]).length ≤ 1048577 := by rw [List.length_append, List.length_singleton]; omega
 have i1 := DA (mw d (d.2.2.2.2.2.2.2.2.2.2.2.2.2.2.2.2.2.2.2.2.2.2.2.1 ++ [(2, d.2.2.2.1, d.2.2.2.2.1, 0, 0, 0, ByteArray.empty, zf, ())])) d.2.2.2.1 d.2.2.2.2.1 rest h4 (by omega) hlen; have i2 := Jl (mw d (d.2.2.2.2.2.2.2.2.2.2.2.2.2.2.2.2.2.2.2.2.2.2.2.1 ++ [(2, d.2.2.2.1, d.2.2.2.2.1, 0, 0, 0, ByteArray.empty, zf, ())])) rest h4 (by omega) hlen; have i1 : aD cV (d.1, d.2.1, d.2.2.1, d.2.2.2.1, d.2.2.2.2.1, d.2.2.2.2.2.1, d.2.2.2.2.2.2.1, d.2.2.2.2.2.2.2.1, d.2.2.2.2.2.2.2.2.1, d.2.2.2.2.2.2.2.2.2.1, d.2.2.2.2.2.2.2.2.2.2.1, d.2.2.2.2.2.2.2.2.2.2.2.1, d.2.2.2.2.2.2.2.2.2.2.2.2.1, d.2.2.2.2.2.2.2.2.2.2.2.2.2.1, d.2.2.2.2.2.2.2.2.2.2.2.2.2.2.1, d.2.2.2.2.2.2.2.2.2.2.2.2.2.2.2.1, d.2.2.2.2.2.2.2.2.2.2.2.2.2.2.2.2.1, d.2.2.2.2.2.2.2.2.2.2.2.2.2.2.2.2.2.1, d.2.2.2.2.2.2.2.2.2.2.2.2.2.2.2.2.2.2.1, d.2.2.2.2.2.2.2.2.2.2.2.2.2.2.2.2.2.2.2.1, d.2.2.2.2.2.2.2.2.2.2.2.2.2.2.2.2.2.2.2.2.1, d.2.2.2.2.2.2.2.2.2.2.2.2.2.2.2.2.2.2.2.2.2.1, d.2.2.2.2.2.2.2.2.2.2.2.2.2.2.2.2.2.2.2.2.2.2.1, d.2.2.2.2.2.2.2.2.2.2.2.2.2.2.2.2.2.2.2.2.2.2.2.1 ++ [(2, d.2.2.2.1, d.2.2.2.2.1, 0, 0, 0, ByteArray.empty, zf, ())], d.2.2.2.1, d.2.2.2.2.1, rest, (0 : Int), ()) = some (.inl (mw d ((d.2.2.2.2.2.2.2.2.2.2.2.2.2.2.2.2.2.2.2.2.2.2.2.1 ++ [(2, d.2.2.2.1, d.2.2.2.2.1, 0, 0, 0, ByteArray.empty, zf, ())]) ++ jv d.2.2.2.1 d.2.2.2.2.1 rest))) := i1; have i2 : gY d.1 d.2.1 d.2.2.1 d.2.2.2.1 d.2.2.2.2.1 d.2.2.2.2.2.1 d.2.2.2.2.2.2.1 d.2.2.2.2.2.2.2.1 d.2.2.2.2.2.2.2.2.1 d.2.2.2.2.2.2.2.2.2.1 d.2.2.2.2.2.2.2.2.2.2.1 d.2.2.2.2.2.2.2.2.2.2.2.1 d.2.2.2.2.2.2.2.2.2.2.2.2.1 d.2.2.2.2.2.2.2.2.2.2.2.2.2.1 d.2.2.2.2.2.2.2.2.2.2.2.2.2.2.1 d.2.2.2.2.2.2.2.2.2.2.2.2.2.2.2.1 d.2.2.2.2.2.2.2.2.2.2.2.2.2.2.2.2.1 d.2.2.2.2.2.2.2.2.2.2.2.2.2.2.2.2.2.1 d.2.2.2.2.2.2.2.2.2.2.2.2.2.2.2.2.2.2.1 d.2.2.2.2.2.2.2.2.2.2.2.2.2.2.2.2.2.2.2.1 d.2.2.2.2.2.2.2.2.2.2.2.2.2.2.2.2.2.2.2.2.1 d.2.2.2.2.2.2.2.2.2.2.2.2.2.2.2.2.2.2.2.2.2.1 d.2.2.2.2.2.2.2.2.2.2.2.2.2.2.2.2.2.2.2.2.2.2.1 (d.2.2.2.2.2.2.2.2.2.2.2.2.2.2.2.2.2.2.2.2.2.2.2.1 ++ [(2, d.2.2.2.1, d.2.2.2.2.1, 0, 0, 0, ByteArray.empty, zf, ())]) rest = some (mw d ((d.2.2.2.2.2.2.2.2.2.2.2.2.2.2.2.2.2.2.2.2.2.2.2.1 ++ [(2, d.2.2.2.1, d.2.2.2.2.1, 0, 0, 0, ByteArray.empty, zf, ())]) ++ jv d.2.2.2.1 d.2.2.2.2.1 rest)) := i2; have LS : Nat.ble ((d.2.2.2.2.2.2.2.2.2.2.2.2.2.2.2.2.2.2.2.2.2.2.2.1.length + 1) * 104) lim = true := bh (by unfold lim; omega); have Jr : Nat.ble ((((d.2.2.2.2.2.2.2.2.2.2.2.2.2.2.2.2.2.2.2.2.2.2.2.1 ++ [((2, d.2.2.2.1, d.2.2.2.2.1, 0, 0, 0, ByteArray.empty, zf, ()) : zx)]) ++ jv d.2.2.2.1 d.2.2.2.2.1 rest).length + 1) * 104) lim = true := bh (by rw [List.length_append, vH]; unfold lim; omega); have XG : Nat.ble ((0 + d.2.2.2.2.2.2.2.2.2.2.2.2.2.2.2.2.2.2.2.2.2.1.length) * 8) lim = true := bh (by unfold lim; omega); unfold eg Cr Fc; rw [eU, WS]
 by_cases ho : 0 < d.2.2.2.2.2.2.2.2.2.2.2.2.2.2.2.2.2.2.2.1
 · constructor
   · unfold dU; simp only [ai ho, cond_true, c5, t1, LS, r1, i1, cM, Option.bind_some, mw, c3, XG, Jr, m1, List.nil_append]; simp only [List.append_assoc]
   · unfold cQ; simp only [ai ho, cond_true, c4, t2, LS, r2, i2, Option.bind_some, mw, c2, c1, Jr, m2]; simp only [List.append_assoc]
 · constructor
   · unfold dU; simp only [aj ho, cond_false, cond_true, c3, LS, XG, m1, Option.bind_some, List.nil_append]
   · unfold cQ; simp only [aj ho, cond_false, cond_true, c2, c1, LS, m2, Option.bind_some]
theorem DB (d : na) (hr : d.2.2.2.2.2.2.2.2.2.2.2.2.2.2.2.2.2.2.2.2.2.1.length ≤ 5) (h4 : d.2.2.2.2.1.length ≤ 5) (h3 : iZ d.2.2.2.2.2.2.2.2.2.2.2.2.2.2.2.2.2.2.2.2.2.2.1) (h6 : d.2.2.2.2.2.2.1.length ≤ 1048576) (h7 : d.2.2.2.2.2.2.2.1.length + wl sm d.2.2.2.2.2.2.2.1 ≤ 1048576) (hg : d.2.2.2.2.2.2.2.2.2.2.2.2.2.2.2.2.2.2.2.2.2.2.2.1.length + wl au d.2.2.2.2.2.2.2.2.2.2.2.2.2.2.2.2.2.2.2.2.2.2.2.1 ≤ 1048576) :
   xH (fa (eg d)) ≤ 2097157 ∧ (Bb (eg d)).length + wl au (Bb (eg d)) ≤ 1060000 := by
 obtain ⟨z1, z2⟩ := Cs d.2.2.2.2.2.2.2.2.2.2.2.2.2.2.2.2.2.2.2.2.2.2.1 d.2.2.2.2.2.2.2.2.2.2.2.2.2.2.2.2.2.2.2.2.1 d.2.2.2.2.2.2.2.2.2.2.2.2.2.2.2.2.2.2.2.2.2.1 d.1 d.2.2.2.2.2.2.2.2.2.2.2.1 h3; obtain ⟨_, _, t3⟩ := pA d.2.2.2.2.2.2.2.2.2.2.2.2.2.2.2.2.2.2.2.2.1 d.2.2.2.2.2.2.2.2.2.2.2.2.2.2.2.2.2.2.2.2.2.1 d.2.2.2.2.2.2.2.2.2.2.2.2.2.2.2.2.2.2.2.2.2.2.1 d.1 (by omega) h3; have w0 : ∀ l : lR, wl cX l = 0 := fun l => qf cX (fun _ => rfl) l
 constructor
 · have e : xH (fa (eg d)) = (List.length d.2.2.2.2.2.2.2.2.2.2.2.2.2.2.2.2.2.2.2.2.2.1 + wl cX d.2.2.2.2.2.2.2.2.2.2.2.2.2.2.2.2.2.2.2.2.2.1) + 0 + (List.length d.2.2.2.2.2.2.1 + wl cX d.2.2.2.2.2.2.1) + (List.length d.2.2.2.2.2.2.2.1 + wl sm d.2.2.2.2.2.2.2.1) + 0 := rfl; rw [e, w0, w0]; omega
 · have e : Bb (eg d) = Cr d ++ [(3, d.2.2.2.2.2.2.2.2.2.2.2.2.2.2.2.2.2.2.2.2.1, d.2.2.2.2.2.2.2.2.2.2.2.2.2.2.2.2.2.2.2.2.2.1, 0, 0, 0, ByteArray.empty, d.2.2.2.2.2.2.2.2.2.2.2.2.2.2.2.2.2.2.2.2.2.1, ())] := rfl; have e1 : au ((3, d.2.2.2.2.2.2.2.2.2.2.2.2.2.2.2.2.2.2.2.2.1, d.2.2.2.2.2.2.2.2.2.2.2.2.2.2.2.2.2.2.2.2.2.1, 0, 0, 0, ByteArray.empty, d.2.2.2.2.2.2.2.2.2.2.2.2.2.2.2.2.2.2.2.2.2.1, ()) : zx) = (d.2.2.2.2.2.2.2.2.2.2.2.2.2.2.2.2.2.2.2.2.2.1.length + wl cX d.2.2.2.2.2.2.2.2.2.2.2.2.2.2.2.2.2.2.2.2.2.1) + 0 + (d.2.2.2.2.2.2.2.2.2.2.2.2.2.2.2.2.2.2.2.2.2.1.length + wl cX d.2.2.2.2.2.2.2.2.2.2.2.2.2.2.2.2.2.2.2.2.2.1) := rfl; have e2 : au ((2, d.2.2.2.1, d.2.2.2.2.1, 0, 0, 0, ByteArray.empty, dA d.2.2.2.2.2.2.2.2.2.2.2.2.2.2.2.2.2.2.2.2.2.2.1 d.2.2.2.2.2.2.2.2.2.2.2.2.2.2.2.2.2.2.2.2.1 d.2.2.2.2.2.2.2.2.2.2.2.2.2.2.2.2.2.2.2.2.2.1 d.1, ()) : zx) = (d.2.2.2.2.1.length + wl cX d.2.2.2.2.1) + 0 + ((dA d.2.2.2.2.2.2.2.2.2.2.2.2.2.2.2.2.2.2.2.2.2.2.1 d.2.2.2.2.2.2.2.2.2.2.2.2.2.2.2.2.2.2.2.2.1 d.2.2.2.2.2.2.2.2.2.2.2.2.2.2.2.2.2.2.2.2.2.1 d.1).length + wl cX (dA d.2.2.2.2.2.2.2.2.2.2.2.2.2.2.2.2.2.2.2.2.2.2.1 d.2.2.2.2.2.2.2.2.2.2.2.2.2.2.2.2.2.2.2.2.1 d.2.2.2.2.2.2.2.2.2.2.2.2.2.2.2.2.2.2.2.2.2.1 d.1)) := rfl; have e3 : (Cr d).length + wl au (Cr d) ≤ 1048576 + 8000 := by
     unfold Cr
     cases decide (0 < d.2.2.2.2.2.2.2.2.2.2.2.2.2.2.2.2.2.2.2.1)
     · show d.2.2.2.2.2.2.2.2.2.2.2.2.2.2.2.2.2.2.2.2.2.2.2.1.length + wl au d.2.2.2.2.2.2.2.2.2.2.2.2.2.2.2.2.2.2.2.2.2.2.2.1 ≤ _; omega
     · show (d.2.2.2.2.2.2.2.2.2.2.2.2.2.2.2.2.2.2.2.2.2.2.2.1 ++ Fc d).length + wl au (d.2.2.2.2.2.2.2.2.2.2.2.2.2.2.2.2.2.2.2.2.2.2.2.1 ++ Fc d) ≤ _; unfold Fc; rw [yc, yc, Ht, List.length_append, List.length_append, vH, nr, u0, e2, w0, w0, List.length_singleton]; have := Nat.mul_le_mul z1 (show d.2.2.2.2.1.length + 0 ≤ 5 by omega); omega
   rw [e, yc, List.length_append, nr, u0, e1, w0, List.length_singleton]; omega
def dN (d : na) (bs : List fx) : na := (d.1, d.2.1, d.2.2.1, d.2.2.2.1, d.2.2.2.2.1, d.2.2.2.2.2.1, d.2.2.2.2.2.2.1, d.2.2.2.2.2.2.2.1, d.2.2.2.2.2.2.2.2.1, d.2.2.2.2.2.2.2.2.2.1, d.2.2.2.2.2.2.2.2.2.2.1, d.2.2.2.2.2.2.2.2.2.2.2.1, d.2.2.2.2.2.2.2.2.2.2.2.2.1, d.2.2.2.2.2.2.2.2.2.2.2.2.2.1, d.2.2.2.2.2.2.2.2.2.2.2.2.2.2.1, d.2.2.2.2.2.2.2.2.2.2.2.2.2.2.2.1, d.2.2.2.2.2.2.2.2.2.2.2.2.2.2.2.2.1, d.2.2.2.2.2.2.2.2.2.2.2.2.2.2.2.2.2.1, d.2.2.2.2.2.2.2.2.2.2.2.2.2.2.2.2.2.2.1, d.2.2.2.2.2.2.2.2.2.2.2.2.2.2.2.2.2.2.2.1, d.2.2.2.2.2.2.2.2.2.2.2.2.2.2.2.2.2.2.2.2.1, d.2.2.2.2.2.2.2.2.2.2.2.2.2.2.2.2.2.2.2.2.2.1, bs, d.2.2.2.2.2.2.2.2.2.2.2.2.2.2.2.2.2.2.2.2.2.2.2.1, ())
noncomputable def dZ (d : na) (b : fx) : na := bif nZ d.2.2.2.2.2.2.2.2.2.2.2.2.2.2.2.2.2.2.2.2.1 d.2.2.2.2.2.2.2.2.2.2.2.2.2.2.2.2.2.2.2.2.2.1 (d.2.2.2.2.2.2.2.2.2.2.2.2.2.2.2.2.2.2.2.2.2.2.1 ++ [b]) then eg (dN d (d.2.2.2.2.2.2.2.2.2.2.2.2.2.2.2.2.2.2.2.2.2.2.1 ++ [b])) else dN d (d.2.2.2.2.2.2.2.2.2.2.2.2.2.2.2.2.2.2.2.2.2.2.1 ++ [b])
noncomputable def xM (d : na) (b : fx) : Bool := xI d && (nW b && (!decide (d.2.2.2.2.2.2.2.2.2.2.2.2.2.2.2.2.2.2.2.2.1 = 0) && (decide (b.2.1 = d.2.2.2.2.2.2.2.2.2.2.2.2.2.2.2.2.2.2.2.2.1) && !(gh d.2.2.2.2.2.2.2.2.2.2.2.2.2.2.2.2.2.2.2.2.2.2.1 d.2.2.2.2.2.2.2.2.2.2.2.2.2.2.2.2.2.2.2.2.1 b.1).isSome)))
noncomputable def aT (d : na) (b : fx) : na × Bool := bif xM d b then (dZ d b, true) else (d, false)
theorem Bc (o : Option fx) : (p7 o).2.2.2.2.1 = o.isSome := by cases o <;> rfl
theorem vk (d : na) (b : fx) (h : so d ≤ 1048576) (hb : b.2.2.2.1.length ≤ 1048576) (hd : xI d = true) (hn : ¬ d.2.2.2.2.2.2.2.2.2.2.2.2.2.2.2.2.2.2.2.2.1 = 0) : M5 d ∧ xG d.2.2.2.2.2.2.2.2.2.2.2.2.2.2.2.2.2.2.2.2.1 d.2.2.2.2.2.2.2.2.2.2.2.2.2.2.2.2.2.2.2.2.2.1 ∧ (d.1, ()) ∈ d.2.2.2.2.2.2.2.2.2.2.2.2.2.2.2.2.2.2.2.2.2.1 ∧ iZ (d.2.2.2.2.2.2.2.2.2.2.2.2.2.2.2.2.2.2.2.2.2.2.1 ++ [b]) ∧ d.2.2.2.2.1.length ≤ 5 ∧ d.2.2.2.2.2.2.2.2.2.2.2.2.2.2.2.2.2.2.2.2.2.2.2.1.length + wl au d.2.2.2.2.2.2.2.2.2.2.2.2.2.2.2.2.2.2.2.2.2.2.2.1 ≤ 1048576 ∧ xH (fa d) ≤ 5000 := by
 have q := (LC d h).2.2.1 hd; have hj : xG d.2.2.2.2.2.2.2.2.2.2.2.2.2.2.2.2.2.2.2.2.1 d.2.2.2.2.2.2.2.2.2.2.2.2.2.2.2.2.2.2.2.2.2.1 ∧ (d.1, ()) ∈ d.2.2.2.2.2.2.2.2.2.2.2.2.2.2.2.2.2.2.2.2.2.1 := by
   rcases q.A9 with g | g
   · exact absurd g.1 hn
   · exact ⟨g.1, g.2.1⟩
 have h0 := h; unfold so at h0; have hm : d.2.2.2.2.1.length ≤ 5 ∧ xH (fa d) ≤ 5000 := by
   rcases q.Rb with g | g
   · have g1 : d.2.2.2.2.1 = [] := g.2.2.1; have g2 : d.2.2.2.2.2.1 = [] := g.2.2.2.1; have g3 : d.2.2.2.2.2.2.1 = [] := g.2.2.2.2.1; have g4 : d.2.2.2.2.2.2.2.1 = [] := g.2.2.2.2.2.1; have g5 : d.2.2.2.2.2.2.2.2.2.2.2.2.2.2.2.2.2.1 = [] := g.2.2.2.2.2.2.2.2.2.2.2.2.2.2.2; refine ⟨by rw [g1]; exact Nat.zero_le _, ?_⟩; show (List.length d.2.2.2.2.1 + wl cX d.2.2.2.2.1) + (List.length d.2.2.2.2.2.1 + wl bn d.2.2.2.2.2.1) + (List.length d.2.2.2.2.2.2.1 + wl cX d.2.2.2.2.2.2.1) + (List.length d.2.2.2.2.2.2.2.1 + wl sm d.2.2.2.2.2.2.2.1) + (List.length d.2.2.2.2.2.2.2.2.2.2.2.2.2.2.2.2.2.1 + wl cX d.2.2.2.2.2.2.2.2.2.2.2.2.2.2.2.2.2.1) ≤ 5000; rw [g1, g2, g3, g4, g5]
     decide
   · exact ⟨g.1.ring.2.1.2, g.1.small⟩
 exact ⟨q, hj.1, hj.2, iZ.more (by omega) hb, hm.1, by omega, hm.2⟩
theorem Be (d : na) (b : fx) (h : so d ≤ 1048576) (hb : b.2.2.2.1.length ≤ 1048576) (hd : xI d = true) (hn : ¬ d.2.2.2.2.2.2.2.2.2.2.2.2.2.2.2.2.2.2.2.2.1 = 0) : fB (dZ d b).1 (dZ d b).2.1 (dZ d b).2.2.1 (dZ d b).2.2.2.1 (dZ d b).2.2.2.2.1 (dZ d b).2.2.2.2.2.1 (dZ d b).2.2.2.2.2.2.1 (dZ d b).2.2.2.2.2.2.2.1 (dZ d b).2.2.2.2.2.2.2.2.1 (dZ d b).2.2.2.2.2.2.2.2.2.1 (dZ d b).2.2.2.2.2.2.2.2.2.2.1 (dZ d b).2.2.2.2.2.2.2.2.2.2.2.1 (dZ d b).2.2.2.2.2.2.2.2.2.2.2.2.1 (dZ d b).2.2.2.2.2.2.2.2.2.2.2.2.2.1 (dZ d b).2.2.2.2.2.2.2.2.2.2.2.2.2.2.1 (dZ d b).2.2.2.2.2.2.2.2.2.2.2.2.2.2.2.1 (dZ d b).2.2.2.2.2.2.2.2.2.2.2.2.2.2.2.2.1 (dZ d b).2.2.2.2.2.2.2.2.2.2.2.2.2.2.2.2.2.1 (dZ d b).2.2.2.2.2.2.2.2.2.2.2.2.2.2.2.2.2.2.1 (dZ d b).2.2.2.2.2.2.2.2.2.2.2.2.2.2.2.2.2.2.2.1 (dZ d b).2.2.2.2.2.2.2.2.2.2.2.2.2.2.2.2.2.2.2.2.1 (dZ d b).2.2.2.2.2.2.2.2.2.2.2.2.2.2.2.2.2.2.2.2.2.1 (dZ d b).2.2.2.2.2.2.2.2.2.2.2.2.2.2.2.2.2.2.2.2.2.2.1 (dZ d b).2.2.2.2.2.2.2.2.2.2.2.2.2.2.2.2.2.2.2.2.2.2.2.1 = some (dZ d b) ∧ so (dZ d b) ≤ 2200000 + (b.2.2.2.1.length + wl bn b.2.2.2.1) := by
 obtain ⟨q, hr, hm, hB, h4, hg, hw⟩ := vk d b h hb hd hn; have h0 := h; unfold so at h0; unfold dZ
 cases nZ d.2.2.2.2.2.2.2.2.2.2.2.2.2.2.2.2.2.2.2.2.1 d.2.2.2.2.2.2.2.2.2.2.2.2.2.2.2.2.2.2.2.2.2.1 (d.2.2.2.2.2.2.2.2.2.2.2.2.2.2.2.2.2.2.2.2.2.2.1 ++ [b])
 · have e1 : fa (dN d (d.2.2.2.2.2.2.2.2.2.2.2.2.2.2.2.2.2.2.2.2.2.2.1 ++ [b])) = fa d := rfl; refine ⟨Fb (dN d (d.2.2.2.2.2.2.2.2.2.2.2.2.2.2.2.2.2.2.2.2.2.2.1 ++ [b])) (by rw [e1]; omega) (by show d.2.2.2.2.2.2.2.2.2.2.2.2.2.2.2.2.2.2.2.2.2.1.length ≤ _; omega) hB (by show d.2.2.2.2.2.2.2.2.2.2.2.2.2.2.2.2.2.2.2.2.2.2.2.1.length + wl au d.2.2.2.2.2.2.2.2.2.2.2.2.2.2.2.2.2.2.2.2.2.2.2.1 ≤ _; omega), ?_⟩; have e : so (dN d (d.2.2.2.2.2.2.2.2.2.2.2.2.2.2.2.2.2.2.2.2.2.2.1 ++ [b])) = (List.length d.2.2.2.2.1 + wl cX d.2.2.2.2.1) + (List.length d.2.2.2.2.2.1 + wl bn d.2.2.2.2.2.1) + (List.length d.2.2.2.2.2.2.1 + wl cX d.2.2.2.2.2.2.1) + (List.length d.2.2.2.2.2.2.2.1 + wl sm d.2.2.2.2.2.2.2.1) + (List.length d.2.2.2.2.2.2.2.2.2.2.2.2.2.2.2.2.2.1 + wl cX d.2.2.2.2.2.2.2.2.2.2.2.2.2.2.2.2.2.1) + (List.length d.2.2.2.2.2.2.2.2.2.2.2.2.2.2.2.2.2.2.2.2.2.1 + wl cX d.2.2.2.2.2.2.2.2.2.2.2.2.2.2.2.2.2.2.2.2.2.1) + (List.length (d.2.2.2.2.2.2.2.2.2.2.2.2.2.2.2.2.2.2.2.2.2.2.1 ++ [b]) + wl aF (d.2.2.2.2.2.2.2.2.2.2.2.2.2.2.2.2.2.2.2.2.2.2.1 ++ [b])) + (List.length d.2.2.2.2.2.2.2.2.2.2.2.2.2.2.2.2.2.2.2.2.2.2.2.1 + wl au d.2.2.2.2.2.2.2.2.2.2.2.2.2.2.2.2.2.2.2.2.2.2.2.1) := rfl; have e2 : aF b = b.2.2.2.1.length + wl bn b.2.2.2.1 := rfl; show so (dN d (d.2.2.2.2.2.2.2.2.2.2.2.2.2.2.2.2.2.2.2.2.2.2.1 ++ [b])) ≤ _; rw [e, yc, List.length_append, nr, u0, e2, List.length_singleton]; omega
 · have h21 := hr.2.1.2; obtain ⟨s1, s2⟩ := DB (dN d (d.2.2.2.2.2.2.2.2.2.2.2.2.2.2.2.2.2.2.2.2.2.2.1 ++ [b])) h21 h4 hB (by show d.2.2.2.2.2.2.1.length ≤ _; omega) (by show d.2.2.2.2.2.2.2.1.length + wl sm d.2.2.2.2.2.2.2.1 ≤ _; omega) hg; have w0 : ∀ l : lR, wl cX l = 0 := fun l => qf cX (fun _ => rfl) l
   have hmw : xH (fa (eg (dN d (d.2.2.2.2.2.2.2.2.2.2.2.2.2.2.2.2.2.2.2.2.2.2.1 ++ [b])))) ≤ 1048576 := by
     have e : xH (fa (eg (dN d (d.2.2.2.2.2.2.2.2.2.2.2.2.2.2.2.2.2.2.2.2.2.2.1 ++ [b])))) = (List.length d.2.2.2.2.2.2.2.2.2.2.2.2.2.2.2.2.2.2.2.2.2.1 + wl cX d.2.2.2.2.2.2.2.2.2.2.2.2.2.2.2.2.2.2.2.2.2.1) + 0 + (List.length d.2.2.2.2.2.2.1 + wl cX d.2.2.2.2.2.2.1) + (List.length d.2.2.2.2.2.2.2.1 + wl sm d.2.2.2.2.2.2.2.1) + 0 := rfl; have e3 : xH (fa d) = (List.length d.2.2.2.2.1 + wl cX d.2.2.2.2.1) + (List.length d.2.2.2.2.2.1 + wl bn d.2.2.2.2.2.1) + (List.length d.2.2.2.2.2.2.1 + wl cX d.2.2.2.2.2.2.1) + (List.length d.2.2.2.2.2.2.2.1 + wl sm d.2.2.2.2.2.2.2.1) + (List.length d.2.2.2.2.2.2.2.2.2.2.2.2.2.2.2.2.2.1 + wl cX d.2.2.2.2.2.2.2.2.2.2.2.2.2.2.2.2.2.1) := rfl; have e4 := w0 d.2.2.2.2.2.2.2.2.2.2.2.2.2.2.2.2.2.2.2.2.2.1; omega
   have e5 : so (eg (dN d (d.2.2.2.2.2.2.2.2.2.2.2.2.2.2.2.2.2.2.2.2.2.2.1 ++ [b]))) = xH (fa (eg (dN d (d.2.2.2.2.2.2.2.2.2.2.2.2.2.2.2.2.2.2.2.2.2.2.1 ++ [b])))) + 0 + 0 + ((Bb (eg (dN d (d.2.2.2.2.2.2.2.2.2.2.2.2.2.2.2.2.2.2.2.2.2.2.1 ++ [b])))).length + wl au (Bb (eg (dN d (d.2.2.2.2.2.2.2.2.2.2.2.2.2.2.2.2.2.2.2.2.2.2.1 ++ [b]))))) := rfl; refine ⟨Fb _ hmw (Nat.zero_le _) ⟨Nat.zero_le _, fun x hx => by cases hx⟩ (by show (Bb (eg (dN d (d.2.2.2.2.2.2.2.2.2.2.2.2.2.2.2.2.2.2.2.2.2.2.1 ++ [b])))).length + wl au (Bb (eg (dN d (d.2.2.2.2.2.2.2.2.2.2.2.2.2.2.2.2.2.2.2.2.2.2.1 ++ [b])))) ≤ _; omega), ?_⟩; show so (eg (dN d (d.2.2.2.2.2.2.2.2.2.2.2.2.2.2.2.2.2.2.2.2.2.2.1 ++ [b]))) ≤ _; rw [e5]; omega
theorem DC (d : na) (b : fx) (h : so d ≤ 1048576) (hb : b.2.2.2.1.length ≤ 1048576) : iu d.1 d.2.1 d.2.2.1 d.2.2.2.1 d.2.2.2.2.1 d.2.2.2.2.2.1 d.2.2.2.2.2.2.1 d.2.2.2.2.2.2.2.1 d.2.2.2.2.2.2.2.2.1 d.2.2.2.2.2.2.2.2.2.1 d.2.2.2.2.2.2.2.2.2.2.1 d.2.2.2.2.2.2.2.2.2.2.2.1 d.2.2.2.2.2.2.2.2.2.2.2.2.1 d.2.2.2.2.2.2.2.2.2.2.2.2.2.1 d.2.2.2.2.2.2.2.2.2.2.2.2.2.2.1 d.2.2.2.2.2.2.2.2.2.2.2.2.2.2.2.1 d.2.2.2.2.2.2.2.2.2.2.2.2.2.2.2.2.1 d.2.2.2.2.2.2.2.2.2.2.2.2.2.2.2.2.2.1 d.2.2.2.2.2.2.2.2.2.2.2.2.2.2.2.2.2.2.1 d.2.2.2.2.2.2.2.2.2.2.2.2.2.2.2.2.2.2.2.1 d.2.2.2.2.2.2.2.2.2.2.2.2.2.2.2.2.2.2.2.2.1 d.2.2.2.2.2.2.2.2.2.2.2.2.2.2.2.2.2.2.2.2.2.1 d.2.2.2.2.2.2.2.2.2.2.2.2.2.2.2.2.2.2.2.2.2.2.1 d.2.2.2.2.2.2.2.2.2.2.2.2.2.2.2.2.2.2.2.2.2.2.2.1 b.1 b.2.1 b.2.2.1 b.2.2.2.1 = some ((aT d b).1.1, (aT d b).1.2.1, (aT d b).1.2.2.1, (aT d b).1.2.2.2.1, (aT d b).1.2.2.2.2.1, (aT d b).1.2.2.2.2.2.1, (aT d b).1.2.2.2.2.2.2.1, (aT d b).1.2.2.2.2.2.2.2.1, (aT d b).1.2.2.2.2.2.2.2.2.1, (aT d b).1.2.2.2.2.2.2.2.2.2.1, (aT d b).1.2.2.2.2.2.2.2.2.2.2.1, (aT d b).1.2.2.2.2.2.2.2.2.2.2.2.1, (aT d b).1.2.2.2.2.2.2.2.2.2.2.2.2.1, (aT d b).1.2.2.2.2.2.2.2.2.2.2.2.2.2.1, (aT d b).1.2.2.2.2.2.2.2.2.2.2.2.2.2.2.1, (aT d b).1.2.2.2.2.2.2.2.2.2.2.2.2.2.2.2.1, (aT d b).1.2.2.2.2.2.2.2.2.2.2.2.2.2.2.2.2.1, (aT d b).1.2.2.2.2.2.2.2.2.2.2.2.2.2.2.2.2.2.1, (aT d b).1.2.2.2.2.2.2.2.2.2.2.2.2.2.2.2.2.2.2.1, (aT d b).1.2.2.2.2.2.2.2.2.2.2.2.2.2.2.2.2.2.2.2.1, (aT d b).1.2.2.2.2.2.2.2.2.2.2.2.2.2.2.2.2.2.2.2.2.1, (aT d b).1.2.2.2.2.2.2.2.2.2.2.2.2.2.2.2.2.2.2.2.2.2.1, (aT d b).1.2.2.2.2.2.2.2.2.2.2.2.2.2.2.2.2.2.2.2.2.2.2.1, (aT d b).1.2.2.2.2.2.2.2.2.2.2.2.2.2.2.2.2.2.2.2.2.2.2.2.1, (aT d b).2, ()) ∧ eV d.1 d.2.1 d.2.2.1 d.2.2.2.1 d.2.2.2.2.1 d.2.2.2.2.2.1 d.2.2.2.2.2.2.1 d.2.2.2.2.2.2.2.1 d.2.2.2.2.2.2.2.2.1 d.2.2.2.2.2.2.2.2.2.1 d.2.2.2.2.2.2.2.2.2.2.1 d.2.2.2.2.2.2.2.2.2.2.2.1 d.2.2.2.2.2.2.2.2.2.2.2.2.1 d.2.2.2.2.2.2.2.2.2.2.2.2.2.1 d.2.2.2.2.2.2.2.2.2.2.2.2.2.2.1 d.2.2.2.2.2.2.2.2.2.2.2.2.2.2.2.1 d.2.2.2.2.2.2.2.2.2.2.2.2.2.2.2.2.1 d.2.2.2.2.2.2.2.2.2.2.2.2.2.2.2.2.2.1 d.2.2.2.2.2.2.2.2.2.2.2.2.2.2.2.2.2.2.1 d.2.2.2.2.2.2.2.2.2.2.2.2.2.2.2.2.2.2.2.1 d.2.2.2.2.2.2.2.2.2.2.2.2.2.2.2.2.2.2.2.2.1 d.2.2.2.2.2.2.2.2.2.2.2.2.2.2.2.2.2.2.2.2.2.1 d.2.2.2.2.2.2.2.2.2.2.2.2.2.2.2.2.2.2.2.2.2.2.1 d.2.2.2.2.2.2.2.2.2.2.2.2.2.2.2.2.2.2.2.2.2.2.2.1 b.1 b.2.1 b.2.2.1 b.2.2.2.1 = some ((aT d b).1.1, (aT d b).1.2.1, (aT d b).1.2.2.1, (aT d b).1.2.2.2.1, (aT d b).1.2.2.2.2.1, (aT d b).1.2.2.2.2.2.1, (aT d b).1.2.2.2.2.2.2.1, (aT d b).1.2.2.2.2.2.2.2.1, (aT d b).1.2.2.2.2.2.2.2.2.1, (aT d b).1.2.2.2.2.2.2.2.2.2.1, (aT d b).1.2.2.2.2.2.2.2.2.2.2.1, (aT d b).1.2.2.2.2.2.2.2.2.2.2.2.1, (aT d b).1.2.2.2.2.2.2.2.2.2.2.2.2.1, (aT d b).1.2.2.2.2.2.2.2.2.2.2.2.2.2.1, (aT d b).1.2.2.2.2.2.2.2.2.2.2.2.2.2.2.1, (aT d b).1.2.2.2.2.2.2.2.2.2.2.2.2.2.2.2.1, (aT d b).1.2.2.2.2.2.2.2.2.2.2.2.2.2.2.2.2.1, (aT d b).1.2.2.2.2.2.2.2.2.2.2.2.2.2.2.2.2.2.1, (aT d b).1.2.2.2.2.2.2.2.2.2.2.2.2.2.2.2.2.2.2.1, (aT d b).1.2.2.2.2.2.2.2.2.2.2.2.2.2.2.2.2.2.2.2.1, (aT d b).1.2.2.2.2.2.2.2.2.2.2.2.2.2.2.2.2.2.2.2.2.1, (aT d b).1.2.2.2.2.2.2.2.2.2.2.2.2.2.2.2.2.2.2.2.2.2.1, (aT d b).1.2.2.2.2.2.2.2.2.2.2.2.2.2.2.2.2.2.2.2.2.2.2.1, (aT d b).1.2.2.2.2.2.2.2.2.2.2.2.2.2.2.2.2.2.2.2.2.2.2.2.1, (aT d b).2, ()) := by
 obtain ⟨k1, k2, k3⟩ := LC d h; obtain ⟨p1, p2⟩ := M7 d h; obtain ⟨b1, b2⟩ := oZ b hb; obtain ⟨n1, _⟩ := sU d.2.2.2.2.2.2.2.2.2.2.2.2.2.2.2.2.2.2.2.2.1 d.2.2.2.2.2.2.2.2.2.2.2.2.2.2.2.2.2.2.2.2.2.1; have h0 := h; unfold so at h0; have hS : iZ d.2.2.2.2.2.2.2.2.2.2.2.2.2.2.2.2.2.2.2.2.2.2.1 := iZ.of (by omega); have f1 := pa d.2.2.2.2.2.2.2.2.2.2.2.2.2.2.2.2.2.2.2.2.1 d.2.2.2.2.2.2.2.2.2.2.2.2.2.2.2.2.2.2.2.2.2.1 d.2.2.2.2.2.2.2.2.2.2.2.2.2.2.2.2.2.2.2.2.2.2.1 b.1 hS; have f2 := q8 d.2.2.2.2.2.2.2.2.2.2.2.2.2.2.2.2.2.2.2.2.1 d.2.2.2.2.2.2.2.2.2.2.2.2.2.2.2.2.2.2.2.2.2.1 d.2.2.2.2.2.2.2.2.2.2.2.2.2.2.2.2.2.2.2.2.2.2.1 b.1 hS; have c1 := (mh b hb).1; have c2 := (mh b hb).2; have WT : Nat.ble ((d.2.2.2.2.2.2.2.2.2.2.2.2.2.2.2.2.2.2.2.2.2.2.1.length + 1) * 48) lim = true := bh (by unfold lim; omega); have a12 := Dx d.2.2.2.2.2.2.2.2.2.2.2.2.2.2.2.2.2.2.2.2.1 d.2.2.2.2.2.2.2.2.2.2.2.2.2.2.2.2.2.2.2.2.2.1 (d.2.2.2.2.2.2.2.2.2.2.2.2.2.2.2.2.2.2.2.2.2.2.1 ++ [b]) (by omega) (iZ.more (by omega) hb); have a1 : nF d.2.2.2.2.2.2.2.2.2.2.2.2.2.2.2.2.2.2.2.2.1 d.2.2.2.2.2.2.2.2.2.2.2.2.2.2.2.2.2.2.2.2.2.1 (d.2.2.2.2.2.2.2.2.2.2.2.2.2.2.2.2.2.2.2.2.2.2.1 ++ [(b.1, b.2.1, b.2.2.1, b.2.2.2.1, ())]) = some (nZ d.2.2.2.2.2.2.2.2.2.2.2.2.2.2.2.2.2.2.2.2.1 d.2.2.2.2.2.2.2.2.2.2.2.2.2.2.2.2.2.2.2.2.2.1 (d.2.2.2.2.2.2.2.2.2.2.2.2.2.2.2.2.2.2.2.2.2.2.1 ++ [b]), ()) := a12.1; have a2 : nM d.2.2.2.2.2.2.2.2.2.2.2.2.2.2.2.2.2.2.2.2.1 d.2.2.2.2.2.2.2.2.2.2.2.2.2.2.2.2.2.2.2.2.2.1 (d.2.2.2.2.2.2.2.2.2.2.2.2.2.2.2.2.2.2.2.2.2.2.1 ++ [(b.1, b.2.1, b.2.2.1, b.2.2.2.1, ())]) = some (nZ d.2.2.2.2.2.2.2.2.2.2.2.2.2.2.2.2.2.2.2.2.1 d.2.2.2.2.2.2.2.2.2.2.2.2.2.2.2.2.2.2.2.2.2.1 (d.2.2.2.2.2.2.2.2.2.2.2.2.2.2.2.2.2.2.2.2.2.2.1 ++ [b]), ()) := a12.2; have Sv : xI d = true → (decide (d.2.2.2.2.2.2.2.2.2.2.2.2.2.2.2.2.2.2.2.2.1 = 0) && decide (((List.length d.2.2.2.2.2.2.2.2.2.2.2.2.2.2.2.2.2.2.2.2.2.1 : Nat) : Int) = 0)) = decide (d.2.2.2.2.2.2.2.2.2.2.2.2.2.2.2.2.2.2.2.2.1 = 0) := fun hd => by
   rcases (k3.1 hd).A9 with g | g
   · rw [g.1, g.2.1]; rfl
   · have := g.1.1.1; rw [I4 (show ¬ d.2.2.2.2.2.2.2.2.2.2.2.2.2.2.2.2.2.2.2.2.1 = 0 by omega)]; rfl
 unfold aT xM
 constructor
 · unfold iu; simp only [p1, k1, b1, n1, f1, c1, Option.bind_some, Bc]
   cases hd : xI d
   · rfl
   cases hB : nW b
   · rfl
   rw [Sv hd]
   by_cases hn : d.2.2.2.2.2.2.2.2.2.2.2.2.2.2.2.2.2.2.2.2.1 = 0
   · rw [Lo hn]; rfl
   rw [I4 hn]
   cases decide (b.2.1 = d.2.2.2.2.2.2.2.2.2.2.2.2.2.2.2.2.2.2.2.2.1)
   · rfl
   cases (gh d.2.2.2.2.2.2.2.2.2.2.2.2.2.2.2.2.2.2.2.2.2.2.1 d.2.2.2.2.2.2.2.2.2.2.2.2.2.2.2.2.2.2.2.2.1 b.1).isSome
   case true => rfl
   obtain ⟨q, hr, hm, hBS, h4, hg, _⟩ := vk d b h hb hd hn; have i1 := (xL (dN d (d.2.2.2.2.2.2.2.2.2.2.2.2.2.2.2.2.2.2.2.2.2.2.1 ++ [b])) hr hm hBS (by show d.2.2.2.2.1.length ≤ _; omega) (by show d.2.2.2.2.2.2.2.2.2.2.2.2.2.2.2.2.2.2.2.2.2.2.2.1.length ≤ _; omega)).1; have i1 : dU d.1 d.2.1 d.2.2.1 d.2.2.2.1 d.2.2.2.2.1 d.2.2.2.2.2.1 d.2.2.2.2.2.2.1 d.2.2.2.2.2.2.2.1 d.2.2.2.2.2.2.2.2.1 d.2.2.2.2.2.2.2.2.2.1 d.2.2.2.2.2.2.2.2.2.2.1 d.2.2.2.2.2.2.2.2.2.2.2.1 d.2.2.2.2.2.2.2.2.2.2.2.2.1 d.2.2.2.2.2.2.2.2.2.2.2.2.2.1 d.2.2.2.2.2.2.2.2.2.2.2.2.2.2.1 d.2.2.2.2.2.2.2.2.2.2.2.2.2.2.2.1 d.2.2.2.2.2.2.2.2.2.2.2.2.2.2.2.2.1 d.2.2.2.2.2.2.2.2.2.2.2.2.2.2.2.2.2.1 d.2.2.2.2.2.2.2.2.2.2.2.2.2.2.2.2.2.2.1 d.2.2.2.2.2.2.2.2.2.2.2.2.2.2.2.2.2.2.2.1 d.2.2.2.2.2.2.2.2.2.2.2.2.2.2.2.2.2.2.2.2.1 d.2.2.2.2.2.2.2.2.2.2.2.2.2.2.2.2.2.2.2.2.2.1 (d.2.2.2.2.2.2.2.2.2.2.2.2.2.2.2.2.2.2.2.2.2.2.1 ++ [(b.1, b.2.1, b.2.2.1, b.2.2.2.1, ())]) d.2.2.2.2.2.2.2.2.2.2.2.2.2.2.2.2.2.2.2.2.2.2.2.1 = some (eg (dN d (d.2.2.2.2.2.2.2.2.2.2.2.2.2.2.2.2.2.2.2.2.2.2.1 ++ [b]))) := i1; have ct := (Be d b h hb hd hn).1; unfold dZ at ct ⊢; simp only [Bool.not_true, Bool.not_false, cond_false, cond_true, Bool.and_self, WT, a1, Option.bind_some]
   revert ct
   cases nZ d.2.2.2.2.2.2.2.2.2.2.2.2.2.2.2.2.2.2.2.2.1 d.2.2.2.2.2.2.2.2.2.2.2.2.2.2.2.2.2.2.2.2.2.1 (d.2.2.2.2.2.2.2.2.2.2.2.2.2.2.2.2.2.2.2.2.2.2.1 ++ [b]) <;> intro ct
   · have ct : fB d.1 d.2.1 d.2.2.1 d.2.2.2.1 d.2.2.2.2.1 d.2.2.2.2.2.1 d.2.2.2.2.2.2.1 d.2.2.2.2.2.2.2.1 d.2.2.2.2.2.2.2.2.1 d.2.2.2.2.2.2.2.2.2.1 d.2.2.2.2.2.2.2.2.2.2.1 d.2.2.2.2.2.2.2.2.2.2.2.1 d.2.2.2.2.2.2.2.2.2.2.2.2.1 d.2.2.2.2.2.2.2.2.2.2.2.2.2.1 d.2.2.2.2.2.2.2.2.2.2.2.2.2.2.1 d.2.2.2.2.2.2.2.2.2.2.2.2.2.2.2.1 d.2.2.2.2.2.2.2.2.2.2.2.2.2.2.2.2.1 d.2.2.2.2.2.2.2.2.2.2.2.2.2.2.2.2.2.1 d.2.2.2.2.2.2.2.2.2.2.2.2.2.2.2.2.2.2.1 d.2.2.2.2.2.2.2.2.2.2.2.2.2.2.2.2.2.2.2.1 d.2.2.2.2.2.2.2.2.2.2.2.2.2.2.2.2.2.2.2.2.1 d.2.2.2.2.2.2.2.2.2.2.2.2.2.2.2.2.2.2.2.2.2.1 (d.2.2.2.2.2.2.2.2.2.2.2.2.2.2.2.2.2.2.2.2.2.2.1 ++ [(b.1, b.2.1, b.2.2.1, b.2.2.2.1, ())]) d.2.2.2.2.2.2.2.2.2.2.2.2.2.2.2.2.2.2.2.2.2.2.2.1 = some (dN d (d.2.2.2.2.2.2.2.2.2.2.2.2.2.2.2.2.2.2.2.2.2.2.1 ++ [b])) := ct; simp only [cond_false, ct, Option.bind_some]
   · simp only [cond_true] at ct; simp only [cond_true, i1, Option.bind_some]; rw [ct]; rfl
 · unfold eV; simp only [p2, k2, b2, f2, c2, Option.bind_some, Bc]
   by_cases hn : d.2.2.2.2.2.2.2.2.2.2.2.2.2.2.2.2.2.2.2.2.1 = 0
   · rw [Lo hn]
     cases xI d <;> cases nW b <;> rfl
   rw [I4 hn]
   cases ud : decide (b.2.1 = d.2.2.2.2.2.2.2.2.2.2.2.2.2.2.2.2.2.2.2.2.1)
   · cases xI d <;> cases nW b <;> rfl
   cases hB : nW b
   · cases xI d <;> rfl
   cases hd : xI d
   · rfl
   cases (gh d.2.2.2.2.2.2.2.2.2.2.2.2.2.2.2.2.2.2.2.2.2.2.1 d.2.2.2.2.2.2.2.2.2.2.2.2.2.2.2.2.2.2.2.2.1 b.1).isSome
   case true => rfl
   obtain ⟨q, hr, hm, hBS, h4, hg, _⟩ := vk d b h hb hd hn; have i1 := (xL (dN d (d.2.2.2.2.2.2.2.2.2.2.2.2.2.2.2.2.2.2.2.2.2.2.1 ++ [b])) hr hm hBS (by show d.2.2.2.2.1.length ≤ _; omega) (by show d.2.2.2.2.2.2.2.2.2.2.2.2.2.2.2.2.2.2.2.2.2.2.2.1.length ≤ _; omega)).2; have i1 : cQ d.1 d.2.1 d.2.2.1 d.2.2.2.1 d.2.2.2.2.1 d.2.2.2.2.2.1 d.2.2.2.2.2.2.1 d.2.2.2.2.2.2.2.1 d.2.2.2.2.2.2.2.2.1 d.2.2.2.2.2.2.2.2.2.1 d.2.2.2.2.2.2.2.2.2.2.1 d.2.2.2.2.2.2.2.2.2.2.2.1 d.2.2.2.2.2.2.2.2.2.2.2.2.1 d.2.2.2.2.2.2.2.2.2.2.2.2.2.1 d.2.2.2.2.2.2.2.2.2.2.2.2.2.2.1 d.2.2.2.2.2.2.2.2.2.2.2.2.2.2.2.1 d.2.2.2.2.2.2.2.2.2.2.2.2.2.2.2.2.1 d.2.2.2.2.2.2.2.2.2.2.2.2.2.2.2.2.2.1 d.2.2.2.2.2.2.2.2.2.2.2.2.2.2.2.2.2.2.1 d.2.2.2.2.2.2.2.2.2.2.2.2.2.2.2.2.2.2.2.1 d.2.2.2.2.2.2.2.2.2.2.2.2.2.2.2.2.2.2.2.2.1 d.2.2.2.2.2.2.2.2.2.2.2.2.2.2.2.2.2.2.2.2.2.1 (d.2.2.2.2.2.2.2.2.2.2.2.2.2.2.2.2.2.2.2.2.2.2.1 ++ [(b.1, b.2.1, b.2.2.1, b.2.2.2.1, ())]) d.2.2.2.2.2.2.2.2.2.2.2.2.2.2.2.2.2.2.2.2.2.2.2.1 = some (eg (dN d (d.2.2.2.2.2.2.2.2.2.2.2.2.2.2.2.2.2.2.2.2.2.2.1 ++ [b]))) := i1; unfold dZ; simp only [Bool.not_true, Bool.not_false, cond_false, cond_true, Bool.and_self, WT, a2, Option.bind_some]
   cases nZ d.2.2.2.2.2.2.2.2.2.2.2.2.2.2.2.2.2.2.2.2.1 d.2.2.2.2.2.2.2.2.2.2.2.2.2.2.2.2.2.2.2.2.2.1 (d.2.2.2.2.2.2.2.2.2.2.2.2.2.2.2.2.2.2.2.2.2.2.1 ++ [b])
   · rfl
   · simp only [cond_true, i1, Option.bind_some]
theorem DD (d : na) (b : fx) (h : so d ≤ 1048576) (hb : b.2.2.2.1.length + wl bn b.2.2.2.1 ≤ 1048576) : so (aT d b).1 ≤ 4194304 := by
 unfold aT
 cases ht : xM d b
 · show so d ≤ _; omega
 · unfold xM at ht; simp only [Bool.and_eq_true, Bool.not_eq_true', decide_eq_false_iff_not] at ht; have := (Be d b h (by omega) ht.1 ht.2.2.1).2; show so (dZ d b) ≤ _; omega
end Go.TM
set_option linter.unusedSimpArgs false
set_option linter.unusedVariables false
namespace Go.TM
open Go
theorem zy (cJ : Int) (dI : Bool) (dj : Int) (cO : Int) (cS : aG) (di : ak) (cT : aG) (cU : hZ) (dx : Int) (dy : Int) (bT : Int) (bL : Int) (bU : Int) (bV : Int) (bW : Int) (bX : Int) (bY : Int) (bG : aG) (bo : Int) (bk : Int) (aO : Int) (aJ : aG) (ba : af) (bp : ah) (n7 : Int) (n8 : Int) (qk : Int) (oR : ak) (h0 : (List.length cS + wl cX cS) + (List.length di + wl bn di) + (List.length cT + wl cX cT) + (List.length cU + wl sm cU) + (List.length bG + wl cX bG) + (List.length aJ + wl cX aJ) + (List.length ba + wl aF ba) + (List.length bp + wl au bp) ≤ 1048576) (h1 : (List.length oR + wl bn oR) ≤ 1048576) : ∃ o0 o1 o2 o3 o4 o5 o6 o7 o8 o9 Rf Rg Rh Ri Rj Rk Rl LJ Rm Rn Ro LK LL LM o24, iu cJ dI dj cO cS di cT cU dx dy bT bL bU bV bW bX bY bG bo bk aO aJ ba bp n7 n8 qk oR = some (o0, o1, o2, o3, o4, o5, o6, o7, o8, o9, Rf, Rg, Rh, Ri, Rj, Rk, Rl, LJ, Rm, Rn, Ro, LK, LL, LM, o24, ()) ∧ eV cJ dI dj cO cS di cT cU dx dy bT bL bU bV bW bX bY bG bo bk aO aJ ba bp n7 n8 qk oR = some (o0, o1, o2, o3, o4, o5, o6, o7, o8, o9, Rf, Rg, Rh, Ri, Rj, Rk, Rl, LJ, Rm, Rn, Ro, LK, LL, LM, o24, ()) ∧ (List.length o4 + wl cX o4) + (List.length o5 + wl bn o5) + (List.length o6 + wl cX o6) + (List.length o7 + wl sm o7) + (List.length LJ + wl cX LJ) + (List.length LK + wl cX LK) + (List.length LL + wl aF LL) + (List.length LM + wl au LM) ≤ 4194304 := by
 obtain ⟨k1, k2⟩ := DC (cJ, dI, dj, cO, cS, di, cT, cU, dx, dy, bT, bL, bU, bV, bW, bX, bY, bG, bo, bk, aO, aJ, ba, bp, ()) (n7, n8, qk, oR, ()) h0 (by show List.length oR ≤ _; omega); exact ⟨_, _, _, _, _, _, _, _, _, _, _, _, _, _, _, _, _, _, _, _, _, _, _, _, _, k1, k2, DD (cJ, dI, dj, cO, cS, di, cT, cU, dx, dy, bT, bL, bU, bV, bW, bX, bY, bG, bo, bk, aO, aJ, ba, bp, ()) (n7, n8, qk, oR, ()) h0 h1⟩
end Go.TM
