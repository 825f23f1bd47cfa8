/- Sizes, copies, sameness: what the laws' own helping functions answer. -/
import Derived.Test.YtiljcjnnhkidbaaGreatBF2
namespace Go.TM
open Go
def Cv (x : Int × Unit) : Prop := (-9223372036854775808 ≤ x.1 ∧ x.1 < 9223372036854775808) ∧ True
theorem Vx {x : Int × Unit} (h : zR iE x) : Cv x := ⟨ey (aa.1 h).1, trivial⟩
def dJ (_ : Int × Unit) : Nat := 0
theorem Cw (a0 : au) {left : Int} (hz : List.length a0 ≤ 9223372036854775807 ∧ ∀ y ∈ a0, Cv y) (h0 : 0 ≤ left) (h1 : left ≤ 1048576) : Left (ld a0 left) (List.length a0 + wl dJ a0) left := by
 obtain ⟨hlen, L1⟩ := hz; unfold ld; rw [dR (by omega) (by omega)]
 by_cases hd : left - ((List.length a0 : Nat) : Int) < 0
 · rw [ae hd]; exact ⟨-1, rfl, by omega, by omega⟩
 rw [af hd]; simp only [cond_false]; have hw : wl dJ a0 = 0 := qQ _ (fun _ => rfl) _; exact ⟨_, rfl, by omega, by intro; omega⟩
def Vy (x : Int × au × Unit) : Prop := (-9223372036854775808 ≤ x.1 ∧ x.1 < 9223372036854775808) ∧ (List.length x.2.1 ≤ 9223372036854775807 ∧ ∀ y ∈ x.2.1, Cv y) ∧ True
def JY (x : Int × au × Unit) : Nat := (List.length x.2.1 + wl dJ x.2.1)
theorem GF (ba : Int) (aM : au) {left : Int} (hz : Vy (ba, aM, ())) (h0 : 0 ≤ left) (h1 : left ≤ 1048576) : Left (nj ba aM left) (JY (ba, aM, ())) left := by
 have hz : (-9223372036854775808 ≤ ba ∧ ba < 9223372036854775808) ∧ (List.length aM ≤ 9223372036854775807 ∧ ∀ y ∈ aM, Cv y) ∧ True := hz; show Left _ ((List.length aM + wl dJ aM)) left; obtain ⟨z0, z1, _⟩ := hz; unfold nj; obtain ⟨m1, e1, l1, w1⟩ := Cw aM (left := left) z1 (by omega) (by omega); rw [e1]; simp only [Option.bind_some]
 by_cases Pj : m1 < 0
 · rw [ae Pj]; exact ⟨-1, rfl, by omega, by omega⟩
 rw [af Pj]; simp only [cond_false]; have w1 := w1 (by omega); exact ⟨_, rfl, by omega, by intro; omega⟩
def vA (x : mZ) : Prop := (-9223372036854775808 ≤ x.1 ∧ x.1 < 9223372036854775808) ∧ (-9223372036854775808 ≤ x.2.1 ∧ x.2.1 < 9223372036854775808) ∧ (-9223372036854775808 ≤ x.2.2.1 ∧ x.2.2.1 < 9223372036854775808) ∧ (ByteArray.size x.2.2.2.1 ≤ 9223372036854775807) ∧ True
theorem OL {x : mZ} (h : zR ax x) : vA x := ⟨ey (aa.1 h).1, ey (aa.1 (aa.1 h).2).1, ey (aa.1 (aa.1 (aa.1 h).2).2).1, Jw (aa.1 (aa.1 (aa.1 (aa.1 h).2).2).2).1, trivial⟩
def bt (x : mZ) : Nat := ByteArray.size x.2.2.2.1
theorem K3 (ba : Int) (aM : Int) (aN : Int) (aJ : ByteArray) {left : Int} (hz : vA (ba, aM, aN, aJ, ())) (h0 : 0 ≤ left) (h1 : left ≤ 1048576) : Left (pM ba aM aN aJ left) (bt (ba, aM, aN, aJ, ())) left := by
 have hz : (-9223372036854775808 ≤ ba ∧ ba < 9223372036854775808) ∧ (-9223372036854775808 ≤ aM ∧ aM < 9223372036854775808) ∧ (-9223372036854775808 ≤ aN ∧ aN < 9223372036854775808) ∧ (ByteArray.size aJ ≤ 9223372036854775807) ∧ True := hz; show Left _ (ByteArray.size aJ) left; obtain ⟨z0, z1, z2, z3, _⟩ := hz; unfold pM; rw [dR (by omega) (by omega)]
 by_cases OM : left - ((ByteArray.size aJ : Nat) : Int) < 0
 · rw [ae OM]; exact ⟨-1, rfl, by omega, by omega⟩
 rw [af OM]; simp only [cond_false]; exact ⟨_, rfl, by omega, by intro; omega⟩
theorem Iv (a0 : ah) {left : Int} (hz : List.length a0 ≤ 9223372036854775807 ∧ ∀ y ∈ a0, vA y) (h0 : 0 ≤ left) (h1 : left ≤ 1048576) : Left (nO a0 left) (List.length a0 + wl bt a0) left := by
 obtain ⟨hlen, L1⟩ := hz; unfold nO; rw [dR (by omega) (by omega)]
 by_cases hd : left - ((List.length a0 : Nat) : Int) < 0
 · rw [ae hd]; exact ⟨-1, rfl, by omega, by omega⟩
 rw [af hd]; simp only [cond_false]; obtain ⟨e, he, hq⟩ := eY (round := kh) (x := (a0, left - ((List.length a0 : Nat) : Int), ((0 : Nat) : Int), ())) a0.length (fun k x => ∃ m : Int, x = (a0, m, ((k : Nat) : Int), ()) ∧ 0 ≤ m ∧ ((a0.length + wl bt (a0.take k) : Nat) : Int) + m ≤ left)
   (fun e => match e with
     | .inl y => 0 ≤ y.1 ∧ ((a0.length + wl bt a0 : Nat) : Int) + y.1 ≤ left
     | .inr y => y.1 = -1) (by
     rintro x ⟨m, rfl, g1, g2⟩
     refine ⟨.inl (m, ()), ?_, g1, by rw [List.take_length] at g2; exact g2⟩; simp only [kh, qo, aD, cond_false]) (by
     rintro k x hk ⟨m, rfl, g1, g2⟩
     have hw := uz bt a0 hk; have hz := L1 _ (List.getElem_mem hk); obtain ⟨m', e', l', w'⟩ := K3 ((a0[k]).1) ((a0[k]).2.1) ((a0[k]).2.2.1) ((a0[k]).2.2.2.1) (left := m) hz g1 (by omega); have w' : 0 ≤ m' → ((bt a0[k] : Nat) : Int) + m' ≤ m := w'; simp only [kh, qo, aw hk, ar, cond_true, aC, List.getElem?_eq_getElem hk, Option.bind_some, e', aF (show k < 4611686018427387904 by omega)]
     by_cases hm : m' < 0
     · rw [ae hm]; exact .inl ⟨.inr (-1, ()), rfl, rfl⟩
     · rw [af hm]; have w' := w' (by omega); exact .inr ⟨_, rfl, _, rfl, by omega, by omega⟩)
     ⟨_, rfl, by omega, by rw [List.take_zero, DC]; omega⟩
 rw [show (0 : Int) = ((0 : Nat) : Int) from rfl, he]
 cases e with
 | inl y => exact ⟨y.1, rfl, by have := hq.1; omega, fun _ => hq.2⟩
 | inr y => exact ⟨y.1, rfl, by rw [show y.1 = -1 from hq]; omega, by rw [show y.1 = -1 from hq]; omega⟩
def WJ (x : ByteArray × Unit) : Prop := (ByteArray.size x.1 ≤ 9223372036854775807) ∧ True
theorem z_s {x : ByteArray × Unit} (h : zR uA x) : WJ x := ⟨Jw (aa.1 h).1, trivial⟩
def vU (x : ByteArray × Unit) : Nat := ByteArray.size x.1
theorem JZ (a0 : dk) {left : Int} (hz : List.length a0 ≤ 9223372036854775807 ∧ ∀ y ∈ a0, WJ y) (h0 : 0 ≤ left) (h1 : left ≤ 1048576) : Left (nQ a0 left) (List.length a0 + wl vU a0) left := by
 obtain ⟨hlen, L1⟩ := hz; unfold nQ; rw [dR (by omega) (by omega)]
 by_cases hd : left - ((List.length a0 : Nat) : Int) < 0
 · rw [ae hd]; exact ⟨-1, rfl, by omega, by omega⟩
 rw [af hd]; simp only [cond_false]; obtain ⟨e, he, hq⟩ := eY (round := iT) (x := (a0, left - ((List.length a0 : Nat) : Int), ((0 : Nat) : Int), ())) a0.length (fun k x => ∃ m : Int, x = (a0, m, ((k : Nat) : Int), ()) ∧ 0 ≤ m ∧ ((a0.length + wl vU (a0.take k) : Nat) : Int) + m ≤ left)
   (fun e => match e with
     | .inl y => 0 ≤ y.1 ∧ ((a0.length + wl vU a0 : Nat) : Int) + y.1 ≤ left
     | .inr y => y.1 = -1) (by
     rintro x ⟨m, rfl, g1, g2⟩
     refine ⟨.inl (m, ()), ?_, g1, by rw [List.take_length] at g2; exact g2⟩; simp only [iT, nP, aD, cond_false]) (by
     rintro k x hk ⟨m, rfl, g1, g2⟩
     have hw := uz vU a0 hk; have hz := L1 _ (List.getElem_mem hk); have hs : ByteArray.size a0[k].1 ≤ 9223372036854775807 := hz.1; have hw : wl vU (a0.take (k + 1)) = wl vU (a0.take k) + ByteArray.size a0[k].1 := hw; simp only [iT, nP, aw hk, ar, cond_true, aC, List.getElem?_eq_getElem hk, Option.bind_some, aF (show k < 4611686018427387904 by omega)]; rw [dR (by omega) (by omega)]
     by_cases hm : m - ((ByteArray.size a0[k].1 : Nat) : Int) < 0
     · rw [ae hm]; exact .inl ⟨.inr (-1, ()), rfl, rfl⟩
     · rw [af hm]; exact .inr ⟨_, rfl, _, rfl, by omega, by omega⟩)
     ⟨_, rfl, by omega, by rw [List.take_zero, DC]; omega⟩
 rw [show (0 : Int) = ((0 : Nat) : Int) from rfl, he]
 cases e with
 | inl y => exact ⟨y.1, rfl, by have := hq.1; omega, fun _ => hq.2⟩
 | inr y => exact ⟨y.1, rfl, by rw [show y.1 = -1 from hq]; omega, by rw [show y.1 = -1 from hq]; omega⟩
def D6 (x : ir) : Prop := (-9223372036854775808 ≤ x.1 ∧ x.1 < 9223372036854775808) ∧ (-9223372036854775808 ≤ x.2.1 ∧ x.2.1 < 9223372036854775808) ∧ (-9223372036854775808 ≤ x.2.2.1 ∧ x.2.2.1 < 9223372036854775808) ∧ (-9223372036854775808 ≤ x.2.2.2.1 ∧ x.2.2.2.1 < 9223372036854775808) ∧ (-9223372036854775808 ≤ x.2.2.2.2.1 ∧ x.2.2.2.2.1 < 9223372036854775808) ∧ (List.length x.2.2.2.2.2.1 ≤ 9223372036854775807 ∧ ∀ y ∈ x.2.2.2.2.2.1, Cv y) ∧ True
def yX (x : ir) : Nat := (List.length x.2.2.2.2.2.1 + wl dJ x.2.2.2.2.2.1)
theorem Iw (ba : Int) (aM : Int) (aN : Int) (aJ : Int) (bf : Int) (aT : au) {left : Int} (hz : D6 (ba, aM, aN, aJ, bf, aT, ())) (h0 : 0 ≤ left) (h1 : left ≤ 1048576) : Left (lM ba aM aN aJ bf aT left) (yX (ba, aM, aN, aJ, bf, aT, ())) left := by
 have hz : (-9223372036854775808 ≤ ba ∧ ba < 9223372036854775808) ∧ (-9223372036854775808 ≤ aM ∧ aM < 9223372036854775808) ∧ (-9223372036854775808 ≤ aN ∧ aN < 9223372036854775808) ∧ (-9223372036854775808 ≤ aJ ∧ aJ < 9223372036854775808) ∧ (-9223372036854775808 ≤ bf ∧ bf < 9223372036854775808) ∧ (List.length aT ≤ 9223372036854775807 ∧ ∀ y ∈ aT, Cv y) ∧ True := hz; show Left _ ((List.length aT + wl dJ aT)) left; obtain ⟨z0, z1, z2, z3, z4, z5, _⟩ := hz; unfold lM; obtain ⟨m5, e5, l5, w5⟩ := Cw aT (left := left) z5 (by omega) (by omega); rw [e5]; simp only [Option.bind_some]
 by_cases hd5 : m5 < 0
 · rw [ae hd5]; exact ⟨-1, rfl, by omega, by omega⟩
 rw [af hd5]; simp only [cond_false]; have w5 := w5 (by omega); exact ⟨_, rfl, by omega, by intro; omega⟩
def oA (x : bP) : Prop := (-9223372036854775808 ≤ x.1 ∧ x.1 < 9223372036854775808) ∧ (-9223372036854775808 ≤ x.2.1 ∧ x.2.1 < 9223372036854775808) ∧ (List.length x.2.2.1 ≤ 9223372036854775807 ∧ ∀ y ∈ x.2.2.1, Cv y) ∧ (List.length x.2.2.2.1 ≤ 9223372036854775807 ∧ ∀ y ∈ x.2.2.2.1, vA y) ∧ (List.length x.2.2.2.2.1 ≤ 9223372036854775807 ∧ ∀ y ∈ x.2.2.2.2.1, Cv y) ∧ (List.length x.2.2.2.2.2.1 ≤ 9223372036854775807 ∧ ∀ y ∈ x.2.2.2.2.2.1, WJ y) ∧ (-9223372036854775808 ≤ x.2.2.2.2.2.2.1 ∧ x.2.2.2.2.2.2.1 < 9223372036854775808) ∧ (-9223372036854775808 ≤ x.2.2.2.2.2.2.2.1 ∧ x.2.2.2.2.2.2.2.1 < 9223372036854775808) ∧ (-9223372036854775808 ≤ x.2.2.2.2.2.2.2.2.1 ∧ x.2.2.2.2.2.2.2.2.1 < 9223372036854775808) ∧ (-9223372036854775808 ≤ x.2.2.2.2.2.2.2.2.2.1 ∧ x.2.2.2.2.2.2.2.2.2.1 < 9223372036854775808) ∧ (-9223372036854775808 ≤ x.2.2.2.2.2.2.2.2.2.2.1 ∧ x.2.2.2.2.2.2.2.2.2.2.1 < 9223372036854775808) ∧ (-9223372036854775808 ≤ x.2.2.2.2.2.2.2.2.2.2.2.1 ∧ x.2.2.2.2.2.2.2.2.2.2.2.1 < 9223372036854775808) ∧ (-9223372036854775808 ≤ x.2.2.2.2.2.2.2.2.2.2.2.2.1 ∧ x.2.2.2.2.2.2.2.2.2.2.2.2.1 < 9223372036854775808) ∧ (-9223372036854775808 ≤ x.2.2.2.2.2.2.2.2.2.2.2.2.2.1 ∧ x.2.2.2.2.2.2.2.2.2.2.2.2.2.1 < 9223372036854775808) ∧ (-9223372036854775808 ≤ x.2.2.2.2.2.2.2.2.2.2.2.2.2.2.1 ∧ x.2.2.2.2.2.2.2.2.2.2.2.2.2.2.1 < 9223372036854775808) ∧ (List.length x.2.2.2.2.2.2.2.2.2.2.2.2.2.2.2.1 ≤ 9223372036854775807 ∧ ∀ y ∈ x.2.2.2.2.2.2.2.2.2.2.2.2.2.2.2.1, Cv y) ∧ True
def fx (x : bP) : Nat := (List.length x.2.2.1 + wl dJ x.2.2.1) + (List.length x.2.2.2.1 + wl bt x.2.2.2.1) + (List.length x.2.2.2.2.1 + wl dJ x.2.2.2.2.1) + (List.length x.2.2.2.2.2.1 + wl vU x.2.2.2.2.2.1) + (List.length x.2.2.2.2.2.2.2.2.2.2.2.2.2.2.2.1 + wl dJ x.2.2.2.2.2.2.2.2.2.2.2.2.2.2.2.1)
theorem QT (ba : Int) (aM : Int) (aN : au) (aJ : ah) (bf : au) (aT : dk) (bZ : Int) (bV : Int) (fO : Int) (fP : Int) (cC : Int) (cD : Int) (cE : Int) (cF : Int) (cG : Int) (bO : au) {left : Int} (hz : oA (ba, aM, aN, aJ, bf, aT, bZ, bV, fO, fP, cC, cD, cE, cF, cG, bO, ())) (h0 : 0 ≤ left) (h1 : left ≤ 1048576) : Left (sN ba aM aN aJ bf aT bZ bV fO fP cC cD cE cF cG bO left) (fx (ba, aM, aN, aJ, bf, aT, bZ, bV, fO, fP, cC, cD, cE, cF, cG, bO, ())) left := by
 have hz : (-9223372036854775808 ≤ ba ∧ ba < 9223372036854775808) ∧ (-9223372036854775808 ≤ aM ∧ aM < 9223372036854775808) ∧ (List.length aN ≤ 9223372036854775807 ∧ ∀ y ∈ aN, Cv y) ∧ (List.length aJ ≤ 9223372036854775807 ∧ ∀ y ∈ aJ, vA y) ∧ (List.length bf ≤ 9223372036854775807 ∧ ∀ y ∈ bf, Cv y) ∧ (List.length aT ≤ 9223372036854775807 ∧ ∀ y ∈ aT, WJ y) ∧ (-9223372036854775808 ≤ bZ ∧ bZ < 9223372036854775808) ∧ (-9223372036854775808 ≤ bV ∧ bV < 9223372036854775808) ∧ (-9223372036854775808 ≤ fO ∧ fO < 9223372036854775808) ∧ (-9223372036854775808 ≤ fP ∧ fP < 9223372036854775808) ∧ (-9223372036854775808 ≤ cC ∧ cC < 9223372036854775808) ∧ (-9223372036854775808 ≤ cD ∧ cD < 9223372036854775808) ∧ (-9223372036854775808 ≤ cE ∧ cE < 9223372036854775808) ∧ (-9223372036854775808 ≤ cF ∧ cF < 9223372036854775808) ∧ (-9223372036854775808 ≤ cG ∧ cG < 9223372036854775808) ∧ (List.length bO ≤ 9223372036854775807 ∧ ∀ y ∈ bO, Cv y) ∧ True := hz; show Left _ ((List.length aN + wl dJ aN) + (List.length aJ + wl bt aJ) + (List.length bf + wl dJ bf) + (List.length aT + wl vU aT) + (List.length bO + wl dJ bO)) left; obtain ⟨z0, z1, z2, z3, z4, z5, z6, z7, z8, z9, z10, z11, z12, z13, z14, z15, _⟩ := hz; unfold sN; obtain ⟨m1, e1, l1, w1⟩ := GF aM aN (left := left) ⟨z1, z2, trivial⟩ (by omega) (by omega); have w1 : 0 ≤ m1 → (((List.length aN + wl dJ aN) : Nat) : Int) + m1 ≤ left := w1; rw [e1]; simp only [Option.bind_some]
 by_cases Pj : m1 < 0
 · rw [ae Pj]; exact ⟨-1, rfl, by omega, by omega⟩
 rw [af Pj]; simp only [cond_false]; have w1 := w1 (by omega); obtain ⟨m3, e3, l3, w3⟩ := Iv aJ (left := m1) z3 (by omega) (by omega); rw [e3]; simp only [Option.bind_some]
 by_cases OM : m3 < 0
 · rw [ae OM]; exact ⟨-1, rfl, by omega, by omega⟩
 rw [af OM]; simp only [cond_false]; have w3 := w3 (by omega); obtain ⟨m4, e4, l4, w4⟩ := Cw bf (left := m3) z4 (by omega) (by omega); rw [e4]; simp only [Option.bind_some]
 by_cases hd4 : m4 < 0
 · rw [ae hd4]; exact ⟨-1, rfl, by omega, by omega⟩
 rw [af hd4]; simp only [cond_false]; have w4 := w4 (by omega); obtain ⟨m5, e5, l5, w5⟩ := JZ aT (left := m4) z5 (by omega) (by omega); rw [e5]; simp only [Option.bind_some]
 by_cases hd5 : m5 < 0
 · rw [ae hd5]; exact ⟨-1, rfl, by omega, by omega⟩
 rw [af hd5]; simp only [cond_false]; have w5 := w5 (by omega); obtain ⟨m10, Vz, l10, w10⟩ := Iw cC cD cE cF cG bO (left := m5) ⟨z10, z11, z12, z13, z14, z15, trivial⟩ (by omega) (by omega); have w10 : 0 ≤ m10 → (((List.length bO + wl dJ bO) : Nat) : Int) + m10 ≤ m5 := w10; rw [Vz]; simp only [Option.bind_some]
 by_cases aap : m10 < 0
 · rw [ae aap]; exact ⟨-1, rfl, by omega, by omega⟩
 rw [af aap]; simp only [cond_false]; have w10 := w10 (by omega); exact ⟨_, rfl, by omega, by intro; omega⟩
def qe (x : cZ) : Prop := (-9223372036854775808 ≤ x.1 ∧ x.1 < 9223372036854775808) ∧ (-9223372036854775808 ≤ x.2.1 ∧ x.2.1 < 9223372036854775808) ∧ (-9223372036854775808 ≤ x.2.2.1 ∧ x.2.2.1 < 9223372036854775808) ∧ (List.length x.2.2.2.1 ≤ 9223372036854775807 ∧ ∀ y ∈ x.2.2.2.1, vA y) ∧ True
theorem Ix {x : cZ} (h : zR dS x) : qe x := ⟨ey (aa.1 h).1, ey (aa.1 (aa.1 h).2).1, ey (aa.1 (aa.1 (aa.1 h).2).2).1, ⟨qm (aa.1 (aa.1 (aa.1 (aa.1 h).2).2).2).1, fun y hy => OL (vM (aa.1 (aa.1 (aa.1 (aa.1 h).2).2).2).1 y hy)⟩, trivial⟩
def aI (x : cZ) : Nat := (List.length x.2.2.2.1 + wl bt x.2.2.2.1)
theorem MM (ba : Int) (aM : Int) (aN : Int) (aJ : ah) {left : Int} (hz : qe (ba, aM, aN, aJ, ())) (h0 : 0 ≤ left) (h1 : left ≤ 1048576) : Left (pj ba aM aN aJ left) (aI (ba, aM, aN, aJ, ())) left := by
 have hz : (-9223372036854775808 ≤ ba ∧ ba < 9223372036854775808) ∧ (-9223372036854775808 ≤ aM ∧ aM < 9223372036854775808) ∧ (-9223372036854775808 ≤ aN ∧ aN < 9223372036854775808) ∧ (List.length aJ ≤ 9223372036854775807 ∧ ∀ y ∈ aJ, vA y) ∧ True := hz; show Left _ ((List.length aJ + wl bt aJ)) left; obtain ⟨z0, z1, z2, z3, _⟩ := hz; unfold pj; obtain ⟨m3, e3, l3, w3⟩ := Iv aJ (left := left) z3 (by omega) (by omega); rw [e3]; simp only [Option.bind_some]
 by_cases OM : m3 < 0
 · rw [ae OM]; exact ⟨-1, rfl, by omega, by omega⟩
 rw [af OM]; simp only [cond_false]; have w3 := w3 (by omega); exact ⟨_, rfl, by omega, by intro; omega⟩
theorem J0 (a0 : ak) {left : Int} (hz : List.length a0 ≤ 9223372036854775807 ∧ ∀ y ∈ a0, qe y) (h0 : 0 ≤ left) (h1 : left ≤ 1048576) : Left (nS a0 left) (List.length a0 + wl aI a0) left := by
 obtain ⟨hlen, L1⟩ := hz; unfold nS; rw [dR (by omega) (by omega)]
 by_cases hd : left - ((List.length a0 : Nat) : Int) < 0
 · rw [ae hd]; exact ⟨-1, rfl, by omega, by omega⟩
 rw [af hd]; simp only [cond_false]; obtain ⟨e, he, hq⟩ := eY (round := iU) (x := (a0, left - ((List.length a0 : Nat) : Int), ((0 : Nat) : Int), ())) a0.length (fun k x => ∃ m : Int, x = (a0, m, ((k : Nat) : Int), ()) ∧ 0 ≤ m ∧ ((a0.length + wl aI (a0.take k) : Nat) : Int) + m ≤ left)
   (fun e => match e with
     | .inl y => 0 ≤ y.1 ∧ ((a0.length + wl aI a0 : Nat) : Int) + y.1 ≤ left
     | .inr y => y.1 = -1) (by
     rintro x ⟨m, rfl, g1, g2⟩
     refine ⟨.inl (m, ()), ?_, g1, by rw [List.take_length] at g2; exact g2⟩; simp only [iU, nR, aD, cond_false]) (by
     rintro k x hk ⟨m, rfl, g1, g2⟩
     have hw := uz aI a0 hk; have hz := L1 _ (List.getElem_mem hk); obtain ⟨m', e', l', w'⟩ := MM ((a0[k]).1) ((a0[k]).2.1) ((a0[k]).2.2.1) ((a0[k]).2.2.2.1) (left := m) hz g1 (by omega); have w' : 0 ≤ m' → ((aI a0[k] : Nat) : Int) + m' ≤ m := w'; simp only [iU, nR, aw hk, ar, cond_true, aC, List.getElem?_eq_getElem hk, Option.bind_some, e', aF (show k < 4611686018427387904 by omega)]
     by_cases hm : m' < 0
     · rw [ae hm]; exact .inl ⟨.inr (-1, ()), rfl, rfl⟩
     · rw [af hm]; have w' := w' (by omega); exact .inr ⟨_, rfl, _, rfl, by omega, by omega⟩)
     ⟨_, rfl, by omega, by rw [List.take_zero, DC]; omega⟩
 rw [show (0 : Int) = ((0 : Nat) : Int) from rfl, he]
 cases e with
 | inl y => exact ⟨y.1, rfl, by have := hq.1; omega, fun _ => hq.2⟩
 | inr y => exact ⟨y.1, rfl, by rw [show y.1 = -1 from hq]; omega, by rw [show y.1 = -1 from hq]; omega⟩
def lK (x : bR) : Prop := (-9223372036854775808 ≤ x.1 ∧ x.1 < 9223372036854775808) ∧ (-9223372036854775808 ≤ x.2.1 ∧ x.2.1 < 9223372036854775808) ∧ (List.length x.2.2.1 ≤ 9223372036854775807 ∧ ∀ y ∈ x.2.2.1, Cv y) ∧ (-9223372036854775808 ≤ x.2.2.2.1 ∧ x.2.2.2.1 < 9223372036854775808) ∧ (-9223372036854775808 ≤ x.2.2.2.2.1 ∧ x.2.2.2.2.1 < 9223372036854775808) ∧ (-9223372036854775808 ≤ x.2.2.2.2.2.1 ∧ x.2.2.2.2.2.1 < 9223372036854775808) ∧ (ByteArray.size x.2.2.2.2.2.2.1 ≤ 9223372036854775807) ∧ (List.length x.2.2.2.2.2.2.2.1 ≤ 9223372036854775807 ∧ ∀ y ∈ x.2.2.2.2.2.2.2.1, Cv y) ∧ True
theorem D7 {x : bR} (h : zR cr x) : lK x := ⟨ey (aa.1 h).1, ey (aa.1 (aa.1 h).2).1, ⟨qm (aa.1 (aa.1 (aa.1 h).2).2).1, fun y hy => Vx (vM (aa.1 (aa.1 (aa.1 h).2).2).1 y hy)⟩, ey (aa.1 (aa.1 (aa.1 (aa.1 h).2).2).2).1, ey (aa.1 (aa.1 (aa.1 (aa.1 (aa.1 h).2).2).2).2).1, ey (aa.1 (aa.1 (aa.1 (aa.1 (aa.1 (aa.1 h).2).2).2).2).2).1, Jw (aa.1 (aa.1 (aa.1 (aa.1 (aa.1 (aa.1 (aa.1 h).2).2).2).2).2).2).1, ⟨qm (aa.1 (aa.1 (aa.1 (aa.1 (aa.1 (aa.1 (aa.1 (aa.1 h).2).2).2).2).2).2).2).1, fun y hy => Vx (vM (aa.1 (aa.1 (aa.1 (aa.1 (aa.1 (aa.1 (aa.1 (aa.1 h).2).2).2).2).2).2).2).1 y hy)⟩, trivial⟩
def aA (x : bR) : Nat := (List.length x.2.2.1 + wl dJ x.2.2.1) + ByteArray.size x.2.2.2.2.2.2.1 + (List.length x.2.2.2.2.2.2.2.1 + wl dJ x.2.2.2.2.2.2.2.1)
theorem ON (ba : Int) (aM : Int) (aN : au) (aJ : Int) (bf : Int) (aT : Int) (bZ : ByteArray) (bV : au) {left : Int} (hz : lK (ba, aM, aN, aJ, bf, aT, bZ, bV, ())) (h0 : 0 ≤ left) (h1 : left ≤ 1048576) : Left (qR ba aM aN aJ bf aT bZ bV left) (aA (ba, aM, aN, aJ, bf, aT, bZ, bV, ())) left := by
 have hz : (-9223372036854775808 ≤ ba ∧ ba < 9223372036854775808) ∧ (-9223372036854775808 ≤ aM ∧ aM < 9223372036854775808) ∧ (List.length aN ≤ 9223372036854775807 ∧ ∀ y ∈ aN, Cv y) ∧ (-9223372036854775808 ≤ aJ ∧ aJ < 9223372036854775808) ∧ (-9223372036854775808 ≤ bf ∧ bf < 9223372036854775808) ∧ (-9223372036854775808 ≤ aT ∧ aT < 9223372036854775808) ∧ (ByteArray.size bZ ≤ 9223372036854775807) ∧ (List.length bV ≤ 9223372036854775807 ∧ ∀ y ∈ bV, Cv y) ∧ True := hz; show Left _ ((List.length aN + wl dJ aN) + ByteArray.size bZ + (List.length bV + wl dJ bV)) left; obtain ⟨z0, z1, z2, z3, z4, z5, z6, z7, _⟩ := hz; unfold qR; obtain ⟨m1, e1, l1, w1⟩ := GF aM aN (left := left) ⟨z1, z2, trivial⟩ (by omega) (by omega); have w1 : 0 ≤ m1 → (((List.length aN + wl dJ aN) : Nat) : Int) + m1 ≤ left := w1; rw [e1]; simp only [Option.bind_some]
 by_cases Pj : m1 < 0
 · rw [ae Pj]; exact ⟨-1, rfl, by omega, by omega⟩
 rw [af Pj]; simp only [cond_false]; have w1 := w1 (by omega); obtain ⟨m3, e3, l3, w3⟩ := K3 aJ bf aT bZ (left := m1) ⟨z3, z4, z5, z6, trivial⟩ (by omega) (by omega); have w3 : 0 ≤ m3 → ((ByteArray.size bZ : Nat) : Int) + m3 ≤ m1 := w3; rw [e3]; simp only [Option.bind_some]
 by_cases OM : m3 < 0
 · rw [ae OM]; exact ⟨-1, rfl, by omega, by omega⟩
 rw [af OM]; simp only [cond_false]; have w3 := w3 (by omega); obtain ⟨m7, e7, l7, w7⟩ := Cw bV (left := m3) z7 (by omega) (by omega); rw [e7]; simp only [Option.bind_some]
 by_cases hd7 : m7 < 0
 · rw [ae hd7]; exact ⟨-1, rfl, by omega, by omega⟩
 rw [af hd7]; simp only [cond_false]; have w7 := w7 (by omega); exact ⟨_, rfl, by omega, by intro; omega⟩
theorem MN (a0 : ai) {left : Int} (hz : List.length a0 ≤ 9223372036854775807 ∧ ∀ y ∈ a0, lK y) (h0 : 0 ≤ left) (h1 : left ≤ 1048576) : Left (pk a0 left) (List.length a0 + wl aA a0) left := by
 obtain ⟨hlen, L1⟩ := hz; unfold pk; rw [dR (by omega) (by omega)]
 by_cases hd : left - ((List.length a0 : Nat) : Int) < 0
 · rw [ae hd]; exact ⟨-1, rfl, by omega, by omega⟩
 rw [af hd]; simp only [cond_false]; obtain ⟨e, he, hq⟩ := eY (round := jM) (x := (a0, left - ((List.length a0 : Nat) : Int), ((0 : Nat) : Int), ())) a0.length (fun k x => ∃ m : Int, x = (a0, m, ((k : Nat) : Int), ()) ∧ 0 ≤ m ∧ ((a0.length + wl aA (a0.take k) : Nat) : Int) + m ≤ left)
   (fun e => match e with
     | .inl y => 0 ≤ y.1 ∧ ((a0.length + wl aA a0 : Nat) : Int) + y.1 ≤ left
     | .inr y => y.1 = -1) (by
     rintro x ⟨m, rfl, g1, g2⟩
     refine ⟨.inl (m, ()), ?_, g1, by rw [List.take_length] at g2; exact g2⟩; simp only [jM, oO, aD, cond_false]) (by
     rintro k x hk ⟨m, rfl, g1, g2⟩
     have hw := uz aA a0 hk; have hz := L1 _ (List.getElem_mem hk); obtain ⟨m', e', l', w'⟩ := ON ((a0[k]).1) ((a0[k]).2.1) ((a0[k]).2.2.1) ((a0[k]).2.2.2.1) ((a0[k]).2.2.2.2.1) ((a0[k]).2.2.2.2.2.1) ((a0[k]).2.2.2.2.2.2.1) ((a0[k]).2.2.2.2.2.2.2.1) (left := m) hz g1 (by omega); have w' : 0 ≤ m' → ((aA a0[k] : Nat) : Int) + m' ≤ m := w'; simp only [jM, oO, aw hk, ar, cond_true, aC, List.getElem?_eq_getElem hk, Option.bind_some, e', aF (show k < 4611686018427387904 by omega)]
     by_cases hm : m' < 0
     · rw [ae hm]; exact .inl ⟨.inr (-1, ()), rfl, rfl⟩
     · rw [af hm]; have w' := w' (by omega); exact .inr ⟨_, rfl, _, rfl, by omega, by omega⟩)
     ⟨_, rfl, by omega, by rw [List.take_zero, DC]; omega⟩
 rw [show (0 : Int) = ((0 : Nat) : Int) from rfl, he]
 cases e with
 | inl y => exact ⟨y.1, rfl, by have := hq.1; omega, fun _ => hq.2⟩
 | inr y => exact ⟨y.1, rfl, by rw [show y.1 = -1 from hq]; omega, by rw [show y.1 = -1 from hq]; omega⟩
def cM (x : aj) : Prop := (-9223372036854775808 ≤ x.1 ∧ x.1 < 9223372036854775808) ∧ (True) ∧ (-9223372036854775808 ≤ x.2.2.1 ∧ x.2.2.1 < 9223372036854775808) ∧ (-9223372036854775808 ≤ x.2.2.2.1 ∧ x.2.2.2.1 < 9223372036854775808) ∧ (List.length x.2.2.2.2.1 ≤ 9223372036854775807 ∧ ∀ y ∈ x.2.2.2.2.1, Cv y) ∧ (List.length x.2.2.2.2.2.1 ≤ 9223372036854775807 ∧ ∀ y ∈ x.2.2.2.2.2.1, vA y) ∧ (List.length x.2.2.2.2.2.2.1 ≤ 9223372036854775807 ∧ ∀ y ∈ x.2.2.2.2.2.2.1, Cv y) ∧ (List.length x.2.2.2.2.2.2.2.1 ≤ 9223372036854775807 ∧ ∀ y ∈ x.2.2.2.2.2.2.2.1, WJ y) ∧ (-9223372036854775808 ≤ x.2.2.2.2.2.2.2.2.1 ∧ x.2.2.2.2.2.2.2.2.1 < 9223372036854775808) ∧ (-9223372036854775808 ≤ x.2.2.2.2.2.2.2.2.2.1 ∧ x.2.2.2.2.2.2.2.2.2.1 < 9223372036854775808) ∧ (-9223372036854775808 ≤ x.2.2.2.2.2.2.2.2.2.2.1 ∧ x.2.2.2.2.2.2.2.2.2.2.1 < 9223372036854775808) ∧ (-9223372036854775808 ≤ x.2.2.2.2.2.2.2.2.2.2.2.1 ∧ x.2.2.2.2.2.2.2.2.2.2.2.1 < 9223372036854775808) ∧ (-9223372036854775808 ≤ x.2.2.2.2.2.2.2.2.2.2.2.2.1 ∧ x.2.2.2.2.2.2.2.2.2.2.2.2.1 < 9223372036854775808) ∧ (-9223372036854775808 ≤ x.2.2.2.2.2.2.2.2.2.2.2.2.2.1 ∧ x.2.2.2.2.2.2.2.2.2.2.2.2.2.1 < 9223372036854775808) ∧ (-9223372036854775808 ≤ x.2.2.2.2.2.2.2.2.2.2.2.2.2.2.1 ∧ x.2.2.2.2.2.2.2.2.2.2.2.2.2.2.1 < 9223372036854775808) ∧ (-9223372036854775808 ≤ x.2.2.2.2.2.2.2.2.2.2.2.2.2.2.2.1 ∧ x.2.2.2.2.2.2.2.2.2.2.2.2.2.2.2.1 < 9223372036854775808) ∧ (-9223372036854775808 ≤ x.2.2.2.2.2.2.2.2.2.2.2.2.2.2.2.2.1 ∧ x.2.2.2.2.2.2.2.2.2.2.2.2.2.2.2.2.1 < 9223372036854775808) ∧ (List.length x.2.2.2.2.2.2.2.2.2.2.2.2.2.2.2.2.2.1 ≤ 9223372036854775807 ∧ ∀ y ∈ x.2.2.2.2.2.2.2.2.2.2.2.2.2.2.2.2.2.1, Cv y) ∧ (-9223372036854775808 ≤ x.2.2.2.2.2.2.2.2.2.2.2.2.2.2.2.2.2.2.1 ∧ x.2.2.2.2.2.2.2.2.2.2.2.2.2.2.2.2.2.2.1 < 9223372036854775808) ∧ (-9223372036854775808 ≤ x.2.2.2.2.2.2.2.2.2.2.2.2.2.2.2.2.2.2.2.1 ∧ x.2.2.2.2.2.2.2.2.2.2.2.2.2.2.2.2.2.2.2.1 < 9223372036854775808) ∧ (-9223372036854775808 ≤ x.2.2.2.2.2.2.2.2.2.2.2.2.2.2.2.2.2.2.2.2.1 ∧ x.2.2.2.2.2.2.2.2.2.2.2.2.2.2.2.2.2.2.2.2.1 < 9223372036854775808) ∧ (List.length x.2.2.2.2.2.2.2.2.2.2.2.2.2.2.2.2.2.2.2.2.2.1 ≤ 9223372036854775807 ∧ ∀ y ∈ x.2.2.2.2.2.2.2.2.2.2.2.2.2.2.2.2.2.2.2.2.2.1, Cv y) ∧ (List.length x.2.2.2.2.2.2.2.2.2.2.2.2.2.2.2.2.2.2.2.2.2.2.1 ≤ 9223372036854775807 ∧ ∀ y ∈ x.2.2.2.2.2.2.2.2.2.2.2.2.2.2.2.2.2.2.2.2.2.2.1, qe y) ∧ (List.length x.2.2.2.2.2.2.2.2.2.2.2.2.2.2.2.2.2.2.2.2.2.2.2.1 ≤ 9223372036854775807 ∧ ∀ y ∈ x.2.2.2.2.2.2.2.2.2.2.2.2.2.2.2.2.2.2.2.2.2.2.2.1, lK y) ∧ True
def bD (x : aj) : Nat := (List.length x.2.2.2.2.1 + wl dJ x.2.2.2.2.1) + (List.length x.2.2.2.2.2.1 + wl bt x.2.2.2.2.2.1) + (List.length x.2.2.2.2.2.2.1 + wl dJ x.2.2.2.2.2.2.1) + (List.length x.2.2.2.2.2.2.2.1 + wl vU x.2.2.2.2.2.2.2.1) + (List.length x.2.2.2.2.2.2.2.2.2.2.2.2.2.2.2.2.2.1 + wl dJ x.2.2.2.2.2.2.2.2.2.2.2.2.2.2.2.2.2.1) + (List.length x.2.2.2.2.2.2.2.2.2.2.2.2.2.2.2.2.2.2.2.2.2.1 + wl dJ x.2.2.2.2.2.2.2.2.2.2.2.2.2.2.2.2.2.2.2.2.2.1) + (List.length x.2.2.2.2.2.2.2.2.2.2.2.2.2.2.2.2.2.2.2.2.2.2.1 + wl aI x.2.2.2.2.2.2.2.2.2.2.2.2.2.2.2.2.2.2.2.2.2.2.1) + (List.length x.2.2.2.2.2.2.2.2.2.2.2.2.2.2.2.2.2.2.2.2.2.2.2.1 + wl aA x.2.2.2.2.2.2.2.2.2.2.2.2.2.2.2.2.2.2.2.2.2.2.2.1)
theorem MO (ba : Int) (aM : Bool) (aN : Int) (aJ : Int) (bf : au) (aT : ah) (bZ : au) (bV : dk) (fO : Int) (fP : Int) (cC : Int) (cD : Int) (cE : Int) (cF : Int) (cG : Int) (bO : Int) (iB : Int) (dv : au) (lf : Int) (lh : Int) (iC : Int) (dE : au) (dF : ak) (dQ : ai) {left : Int} (hz : cM (ba, aM, aN, aJ, bf, aT, bZ, bV, fO, fP, cC, cD, cE, cF, cG, bO, iB, dv, lf, lh, iC, dE, dF, dQ, ())) (h0 : 0 ≤ left) (h1 : left ≤ 1048576) : Left (mD ba aM aN aJ bf aT bZ bV fO fP cC cD cE cF cG bO iB dv lf lh iC dE dF dQ left) (bD (ba, aM, aN, aJ, bf, aT, bZ, bV, fO, fP, cC, cD, cE, cF, cG, bO, iB, dv, lf, lh, iC, dE, dF, dQ, ())) left := by
 have hz : (-9223372036854775808 ≤ ba ∧ ba < 9223372036854775808) ∧ (True) ∧ (-9223372036854775808 ≤ aN ∧ aN < 9223372036854775808) ∧ (-9223372036854775808 ≤ aJ ∧ aJ < 9223372036854775808) ∧ (List.length bf ≤ 9223372036854775807 ∧ ∀ y ∈ bf, Cv y) ∧ (List.length aT ≤ 9223372036854775807 ∧ ∀ y ∈ aT, vA y) ∧ (List.length bZ ≤ 9223372036854775807 ∧ ∀ y ∈ bZ, Cv y) ∧ (List.length bV ≤ 9223372036854775807 ∧ ∀ y ∈ bV, WJ y) ∧ (-9223372036854775808 ≤ fO ∧ fO < 9223372036854775808) ∧ (-9223372036854775808 ≤ fP ∧ fP < 9223372036854775808) ∧ (-9223372036854775808 ≤ cC ∧ cC < 9223372036854775808) ∧ (-9223372036854775808 ≤ cD ∧ cD < 9223372036854775808) ∧ (-9223372036854775808 ≤ cE ∧ cE < 9223372036854775808) ∧ (-9223372036854775808 ≤ cF ∧ cF < 9223372036854775808) ∧ (-9223372036854775808 ≤ cG ∧ cG < 9223372036854775808) ∧ (-9223372036854775808 ≤ bO ∧ bO < 9223372036854775808) ∧ (-9223372036854775808 ≤ iB ∧ iB < 9223372036854775808) ∧ (List.length dv ≤ 9223372036854775807 ∧ ∀ y ∈ dv, Cv y) ∧ (-9223372036854775808 ≤ lf ∧ lf < 9223372036854775808) ∧ (-9223372036854775808 ≤ lh ∧ lh < 9223372036854775808) ∧ (-9223372036854775808 ≤ iC ∧ iC < 9223372036854775808) ∧ (List.length dE ≤ 9223372036854775807 ∧ ∀ y ∈ dE, Cv y) ∧ (List.length dF ≤ 9223372036854775807 ∧ ∀ y ∈ dF, qe y) ∧ (List.length dQ ≤ 9223372036854775807 ∧ ∀ y ∈ dQ, lK y) ∧ True := hz; show Left _ ((List.length bf + wl dJ bf) + (List.length aT + wl bt aT) + (List.length bZ + wl dJ bZ) + (List.length bV + wl vU bV) + (List.length dv + wl dJ dv) + (List.length dE + wl dJ dE) + (List.length dF + wl aI dF) + (List.length dQ + wl aA dQ)) left; obtain ⟨z0, z1, z2, z3, z4, z5, z6, z7, z8, z9, z10, z11, z12, z13, z14, z15, z16, z17, z18, z19, z20, z21, z22, z23, _⟩ := hz; unfold mD; obtain ⟨m2, e2, l2, w2⟩ := QT aN aJ bf aT bZ bV fO fP cC cD cE cF cG bO iB dv (left := left) ⟨z2, z3, z4, z5, z6, z7, z8, z9, z10, z11, z12, z13, z14, z15, z16, z17, trivial⟩ (by omega) (by omega); have w2 : 0 ≤ m2 → (((List.length bf + wl dJ bf) + (List.length aT + wl bt aT) + (List.length bZ + wl dJ bZ) + (List.length bV + wl vU bV) + (List.length dv + wl dJ dv) : Nat) : Int) + m2 ≤ left := w2; rw [e2]; simp only [Option.bind_some]
 by_cases hd2 : m2 < 0
 · rw [ae hd2]; exact ⟨-1, rfl, by omega, by omega⟩
 rw [af hd2]; simp only [cond_false]; have w2 := w2 (by omega); obtain ⟨m20, e20, l20, w20⟩ := GF iC dE (left := m2) ⟨z20, z21, trivial⟩ (by omega) (by omega); have w20 : 0 ≤ m20 → (((List.length dE + wl dJ dE) : Nat) : Int) + m20 ≤ m2 := w20; rw [e20]; simp only [Option.bind_some]
 by_cases aaq : m20 < 0
 · rw [ae aaq]; exact ⟨-1, rfl, by omega, by omega⟩
 rw [af aaq]; simp only [cond_false]; have w20 := w20 (by omega); obtain ⟨m22, e22, WK, w22⟩ := J0 dF (left := m20) z22 (by omega) (by omega); rw [e22]; simp only [Option.bind_some]
 by_cases aar : m22 < 0
 · rw [ae aar]; exact ⟨-1, rfl, by omega, by omega⟩
 rw [af aar]; simp only [cond_false]; have w22 := w22 (by omega); obtain ⟨m23, e23, WL, w23⟩ := MN dQ (left := m22) z23 (by omega) (by omega); rw [e23]; simp only [Option.bind_some]
 by_cases aas : m23 < 0
 · rw [ae aas]; exact ⟨-1, rfl, by omega, by omega⟩
 rw [af aas]; simp only [cond_false]; have w23 := w23 (by omega); exact ⟨_, rfl, by omega, by intro; omega⟩
theorem Cx (a0 : au) (h : List.length a0 + wl dJ a0 ≤ 4194304) : lj a0 = some (a0, ()) := by
 have hl : aE jN (a0, List.replicate a0.length ((0 : Int), ()), (0 : Int), ()) = some (.inl (a0, ())) := by
   have := de (round := jN) (e := .inl (a0, ())) a0.length (fun k => (a0, a0.take k ++ List.replicate (a0.length - k) ((0 : Int), ()), ((k : Nat) : Int), ())) (by
     simp only [jN, rQ, aD, cond_false, List.take_length, Nat.sub_self, List.replicate_zero, List.append_nil]) (fun k hk => by
     have hb : k < (a0.take k ++ List.replicate (a0.length - k) (((0 : Int), ()) : Int × Unit)).length := by simp; omega
     simp only [jN, rQ, aw hk, ar, cond_true, aC, List.getElem?_eq_getElem hk, List.getElem?_eq_getElem hb, Option.bind_some, iq hb, aF (show k < 4611686018427387904 by omega)]; rw [← wE a0 _ hk])
   simpa using this
 unfold lj; simp only [decide_true, ar, cond_true, aC, bm (show a0.length * 8 ≤ lim by unfold lim; omega), hl, ew]
theorem GG (ba : Int) (aM : au) (h : JY (ba, aM, ()) ≤ 4194304) : nk ba aM = some (ba, aM, ()) := by
 have h : (List.length aM + wl dJ aM) ≤ 4194304 := h; unfold nk; simp only [Option.bind_some, Cx aM (by show (List.length aM + wl dJ aM) ≤ 4194304; omega)]
theorem K4 (ba : Int) (aM : Int) (aN : Int) (aJ : ByteArray) (h : bt (ba, aM, aN, aJ, ()) ≤ 4194304) : sO ba aM aN aJ = some (ba, aM, aN, aJ, ()) := by
 have h : ByteArray.size aJ ≤ 4194304 := h; rfl
theorem Iy (a0 : ah) (h : List.length a0 + wl bt a0 ≤ 4194304) : nT a0 = some (a0, ()) := by
 have hl : aE iG (a0, List.replicate a0.length ((0 : Int), (0 : Int), (0 : Int), ByteArray.empty, ()), (0 : Int), ()) = some (.inl (a0, ())) := by
   have := de (round := iG) (e := .inl (a0, ())) a0.length (fun k => (a0, a0.take k ++ List.replicate (a0.length - k) ((0 : Int), (0 : Int), (0 : Int), ByteArray.empty, ()), ((k : Nat) : Int), ())) (by
     simp only [iG, qp, aD, cond_false, List.take_length, Nat.sub_self, List.replicate_zero, List.append_nil]) (fun k hk => by
     have hb : k < (a0.take k ++ List.replicate (a0.length - k) (((0 : Int), (0 : Int), (0 : Int), ByteArray.empty, ()) : mZ)).length := by simp; omega
     simp only [iG, qp, aw hk, ar, cond_true, aC, List.getElem?_eq_getElem hk, List.getElem?_eq_getElem hb, Option.bind_some, iq hb, aF (show k < 4611686018427387904 by omega), K4 ((a0[k]).1) ((a0[k]).2.1) ((a0[k]).2.2.1) ((a0[k]).2.2.2.1) (Nat.le_trans (rP bt a0 _ (List.getElem_mem hk)) (by omega))]; rw [← wE a0 _ hk])
   simpa using this
 unfold nT; simp only [decide_true, ar, cond_true, aC, bm (show a0.length * 40 ≤ lim by unfold lim; omega), hl, ew]
theorem J1 (a0 : dk) (h : List.length a0 + wl vU a0 ≤ 4194304) : nV a0 = some (a0, ()) := by
 have hl : aE gl (a0, List.replicate a0.length (ByteArray.empty, ()), (0 : Int), ()) = some (.inl (a0, ())) := by
   have := de (round := gl) (e := .inl (a0, ())) a0.length (fun k => (a0, a0.take k ++ List.replicate (a0.length - k) (ByteArray.empty, ()), ((k : Nat) : Int), ())) (by
     simp only [gl, nU, aD, cond_false, List.take_length, Nat.sub_self, List.replicate_zero, List.append_nil]) (fun k hk => by
     have hb : k < (a0.take k ++ List.replicate (a0.length - k) ((ByteArray.empty, ()) : ByteArray × Unit)).length := by simp; omega
     simp only [gl, nU, aw hk, ar, cond_true, aC, List.getElem?_eq_getElem hk, List.getElem?_eq_getElem hb, Option.bind_some, iq hb, aF (show k < 4611686018427387904 by omega)]; rw [← wE a0 _ hk])
   simpa using this
 unfold nV; simp only [decide_true, ar, cond_true, aC, bm (show a0.length * 16 ≤ lim by unfold lim; omega), hl, ew]
theorem Iz (ba : Int) (aM : Int) (aN : Int) (aJ : Int) (bf : Int) (aT : au) (h : yX (ba, aM, aN, aJ, bf, aT, ()) ≤ 4194304) : aW ba aM aN aJ bf aT = some (ba, aM, aN, aJ, bf, aT, ()) := by
 have h : (List.length aT + wl dJ aT) ≤ 4194304 := h; unfold aW; simp only [Option.bind_some, Cx aT (by show (List.length aT + wl dJ aT) ≤ 4194304; omega)]
theorem QU (ba : Int) (aM : Int) (aN : au) (aJ : ah) (bf : au) (aT : dk) (bZ : Int) (bV : Int) (fO : Int) (fP : Int) (cC : Int) (cD : Int) (cE : Int) (cF : Int) (cG : Int) (bO : au) (h : fx (ba, aM, aN, aJ, bf, aT, bZ, bV, fO, fP, cC, cD, cE, cF, cG, bO, ()) ≤ 4194304) : sP ba aM aN aJ bf aT bZ bV fO fP cC cD cE cF cG bO = some (ba, aM, aN, aJ, bf, aT, bZ, bV, fO, fP, cC, cD, cE, cF, cG, bO, ()) := by
 have h : (List.length aN + wl dJ aN) + (List.length aJ + wl bt aJ) + (List.length bf + wl dJ bf) + (List.length aT + wl vU aT) + (List.length bO + wl dJ bO) ≤ 4194304 := h; unfold sP; simp only [Option.bind_some, GG aM aN (by show (List.length aN + wl dJ aN) ≤ 4194304; omega), Iy aJ (by show (List.length aJ + wl bt aJ) ≤ 4194304; omega), Cx bf (by show (List.length bf + wl dJ bf) ≤ 4194304; omega), J1 aT (by show (List.length aT + wl vU aT) ≤ 4194304; omega), Iz cC cD cE cF cG bO (by show (List.length bO + wl dJ bO) ≤ 4194304; omega)]
theorem MP (ba : Int) (aM : Int) (aN : Int) (aJ : ah) (h : aI (ba, aM, aN, aJ, ()) ≤ 4194304) : pn ba aM aN aJ = some (ba, aM, aN, aJ, ()) := by
 have h : (List.length aJ + wl bt aJ) ≤ 4194304 := h; unfold pn; simp only [Option.bind_some, Iy aJ (by show (List.length aJ + wl bt aJ) ≤ 4194304; omega)]
theorem J2 (a0 : ak) (h : List.length a0 + wl aI a0 ≤ 4194304) : nX a0 = some (a0, ()) := by
 have hl : aE gm (a0, List.replicate a0.length ((0 : Int), (0 : Int), (0 : Int), [], ()), (0 : Int), ()) = some (.inl (a0, ())) := by
   have := de (round := gm) (e := .inl (a0, ())) a0.length (fun k => (a0, a0.take k ++ List.replicate (a0.length - k) ((0 : Int), (0 : Int), (0 : Int), [], ()), ((k : Nat) : Int), ())) (by
     simp only [gm, nW, aD, cond_false, List.take_length, Nat.sub_self, List.replicate_zero, List.append_nil]) (fun k hk => by
     have hb : k < (a0.take k ++ List.replicate (a0.length - k) (((0 : Int), (0 : Int), (0 : Int), [], ()) : cZ)).length := by simp; omega
     simp only [gm, nW, aw hk, ar, cond_true, aC, List.getElem?_eq_getElem hk, List.getElem?_eq_getElem hb, Option.bind_some, iq hb, aF (show k < 4611686018427387904 by omega), MP ((a0[k]).1) ((a0[k]).2.1) ((a0[k]).2.2.1) ((a0[k]).2.2.2.1) (Nat.le_trans (rP aI a0 _ (List.getElem_mem hk)) (by omega))]; rw [← wE a0 _ hk])
   simpa using this
 unfold nX; simp only [decide_true, ar, cond_true, aC, bm (show a0.length * 48 ≤ lim by unfold lim; omega), hl, ew]
theorem OO (ba : Int) (aM : Int) (aN : au) (aJ : Int) (bf : Int) (aT : Int) (bZ : ByteArray) (bV : au) (h : aA (ba, aM, aN, aJ, bf, aT, bZ, bV, ()) ≤ 4194304) : qS ba aM aN aJ bf aT bZ bV = some (ba, aM, aN, aJ, bf, aT, bZ, bV, ()) := by
 have h : (List.length aN + wl dJ aN) + ByteArray.size bZ + (List.length bV + wl dJ bV) ≤ 4194304 := h; unfold qS; simp only [Option.bind_some, GG aM aN (by show (List.length aN + wl dJ aN) ≤ 4194304; omega), K4 aJ bf aT bZ (by show ByteArray.size bZ ≤ 4194304; omega), Cx bV (by show (List.length bV + wl dJ bV) ≤ 4194304; omega)]
theorem MQ (a0 : ai) (h : List.length a0 + wl aA a0 ≤ 4194304) : po a0 = some (a0, ()) := by
 have hl : aE ia (a0, List.replicate a0.length ((0 : Int), (0 : Int), [], (0 : Int), (0 : Int), (0 : Int), ByteArray.empty, [], ()), (0 : Int), ()) = some (.inl (a0, ())) := by
   have := de (round := ia) (e := .inl (a0, ())) a0.length (fun k => (a0, a0.take k ++ List.replicate (a0.length - k) ((0 : Int), (0 : Int), [], (0 : Int), (0 : Int), (0 : Int), ByteArray.empty, [], ()), ((k : Nat) : Int), ())) (by
     simp only [ia, oP, aD, cond_false, List.take_length, Nat.sub_self, List.replicate_zero, List.append_nil]) (fun k hk => by
     have hb : k < (a0.take k ++ List.replicate (a0.length - k) (((0 : Int), (0 : Int), [], (0 : Int), (0 : Int), (0 : Int), ByteArray.empty, [], ()) : bR)).length := by simp; omega
     simp only [ia, oP, aw hk, ar, cond_true, aC, List.getElem?_eq_getElem hk, List.getElem?_eq_getElem hb, Option.bind_some, iq hb, aF (show k < 4611686018427387904 by omega), OO ((a0[k]).1) ((a0[k]).2.1) ((a0[k]).2.2.1) ((a0[k]).2.2.2.1) ((a0[k]).2.2.2.2.1) ((a0[k]).2.2.2.2.2.1) ((a0[k]).2.2.2.2.2.2.1) ((a0[k]).2.2.2.2.2.2.2.1) (Nat.le_trans (rP aA a0 _ (List.getElem_mem hk)) (by omega))]; rw [← wE a0 _ hk])
   simpa using this
 unfold po; simp only [decide_true, ar, cond_true, aC, bm (show a0.length * 104 ≤ lim by unfold lim; omega), hl, ew]
theorem MR (ba : Int) (aM : Bool) (aN : Int) (aJ : Int) (bf : au) (aT : ah) (bZ : au) (bV : dk) (fO : Int) (fP : Int) (cC : Int) (cD : Int) (cE : Int) (cF : Int) (cG : Int) (bO : Int) (iB : Int) (dv : au) (lf : Int) (lh : Int) (iC : Int) (dE : au) (dF : ak) (dQ : ai) (h : bD (ba, aM, aN, aJ, bf, aT, bZ, bV, fO, fP, cC, cD, cE, cF, cG, bO, iB, dv, lf, lh, iC, dE, dF, dQ, ()) ≤ 4194304) : fQ ba aM aN aJ bf aT bZ bV fO fP cC cD cE cF cG bO iB dv lf lh iC dE dF dQ = some (ba, aM, aN, aJ, bf, aT, bZ, bV, fO, fP, cC, cD, cE, cF, cG, bO, iB, dv, lf, lh, iC, dE, dF, dQ, ()) := by
 have h : (List.length bf + wl dJ bf) + (List.length aT + wl bt aT) + (List.length bZ + wl dJ bZ) + (List.length bV + wl vU bV) + (List.length dv + wl dJ dv) + (List.length dE + wl dJ dE) + (List.length dF + wl aI dF) + (List.length dQ + wl aA dQ) ≤ 4194304 := h; unfold fQ; simp only [Option.bind_some, QU aN aJ bf aT bZ bV fO fP cC cD cE cF cG bO iB dv (by show (List.length bf + wl dJ bf) + (List.length aT + wl bt aT) + (List.length bZ + wl dJ bZ) + (List.length bV + wl vU bV) + (List.length dv + wl dJ dv) ≤ 4194304; omega), GG iC dE (by show (List.length dE + wl dJ dE) ≤ 4194304; omega), J2 dF (by show (List.length dF + wl aI dF) ≤ 4194304; omega), MQ dQ (by show (List.length dQ + wl aA dQ) ≤ 4194304; omega)]
theorem Cy (a0 : au) (h : List.length a0 + wl dJ a0 ≤ 4194304) : ly a0 a0 = some (true, ()) := by
 have hl : aE jX (a0, a0, (0 : Int), ()) = some (.inl ()) := by
   have := de (round := jX) (e := .inl ()) a0.length (fun k => (a0, a0, ((k : Nat) : Int), ())) (by
     simp only [jX, sq, aD, cond_false]) (fun k hk => by
     simp only [jX, sq, aw hk, ar, cond_true, cond_false, aC, List.getElem?_eq_getElem hk, Option.bind_some, decide_true, beq_self_eq_true, dG, Bool.not_true, aF (show k < 4611686018427387904 by omega)])
   simpa using this
 unfold ly; simp only [decide_true, Bool.not_true, cond_false, hl, ew]
theorem GH (ba : Int) (aM : au) (h : JY (ba, aM, ()) ≤ 4194304) : nr ba aM ba aM = some (true, ()) := by
 have h : (List.length aM + wl dJ aM) ≤ 4194304 := h; unfold nr; simp only [decide_true, beq_self_eq_true, Bool.not_true, Bool.not_false, cond_true, cond_false, dG, Option.bind_some, Cy aM (by show (List.length aM + wl dJ aM) ≤ 4194304; omega)]
theorem K5 (ba : Int) (aM : Int) (aN : Int) (aJ : ByteArray) (h : bt (ba, aM, aN, aJ, ()) ≤ 4194304) : pU ba aM aN aJ ba aM aN aJ = some (true, ()) := by
 have h : ByteArray.size aJ ≤ 4194304 := h; unfold pU; simp only [decide_true, beq_self_eq_true, Bool.not_true, Bool.not_false, cond_true, cond_false, dG, Option.bind_some]
theorem D8 (a0 : ah) (h : List.length a0 + wl bt a0 ≤ 4194304) : fV a0 a0 = some (true, ()) := by
 have hl : aE iM (a0, a0, (0 : Int), ()) = some (.inl ()) := by
   have := de (round := iM) (e := .inl ()) a0.length (fun k => (a0, a0, ((k : Nat) : Int), ())) (by
     simp only [iM, qG, aD, cond_false]) (fun k hk => by
     simp only [iM, qG, aw hk, ar, cond_true, cond_false, aC, List.getElem?_eq_getElem hk, Option.bind_some, decide_true, beq_self_eq_true, dG, Bool.not_true, aF (show k < 4611686018427387904 by omega), K5 ((a0[k]).1) ((a0[k]).2.1) ((a0[k]).2.2.1) ((a0[k]).2.2.2.1) (Nat.le_trans (rP bt a0 _ (List.getElem_mem hk)) (by omega))])
   simpa using this
 unfold fV; simp only [decide_true, Bool.not_true, cond_false, hl, ew]
theorem J3 (a0 : dk) (h : List.length a0 + wl vU a0 ≤ 4194304) : ob a0 a0 = some (true, ()) := by
 have hl : aE gn (a0, a0, (0 : Int), ()) = some (.inl ()) := by
   have := de (round := gn) (e := .inl ()) a0.length (fun k => (a0, a0, ((k : Nat) : Int), ())) (by
     simp only [gn, oa, aD, cond_false]) (fun k hk => by
     simp only [gn, oa, aw hk, ar, cond_true, cond_false, aC, List.getElem?_eq_getElem hk, Option.bind_some, decide_true, beq_self_eq_true, dG, Bool.not_true, aF (show k < 4611686018427387904 by omega)])
   simpa using this
 unfold ob; simp only [decide_true, Bool.not_true, cond_false, hl, ew]
theorem D9 (ba : Int) (aM : Int) (aN : Int) (aJ : Int) (bf : Int) (aT : au) (h : yX (ba, aM, aN, aJ, bf, aT, ()) ≤ 4194304) : fj ba aM aN aJ bf aT ba aM aN aJ bf aT = some (true, ()) := by
 have h : (List.length aT + wl dJ aT) ≤ 4194304 := h; unfold fj; simp only [decide_true, beq_self_eq_true, Bool.not_true, Bool.not_false, cond_true, cond_false, dG, Option.bind_some, Cy aT (by show (List.length aT + wl dJ aT) ≤ 4194304; omega)]
theorem QV (ba : Int) (aM : Int) (aN : au) (aJ : ah) (bf : au) (aT : dk) (bZ : Int) (bV : Int) (fO : Int) (fP : Int) (cC : Int) (cD : Int) (cE : Int) (cF : Int) (cG : Int) (bO : au) (h : fx (ba, aM, aN, aJ, bf, aT, bZ, bV, fO, fP, cC, cD, cE, cF, cG, bO, ()) ≤ 4194304) : sQ ba aM aN aJ bf aT bZ bV fO fP cC cD cE cF cG bO ba aM aN aJ bf aT bZ bV fO fP cC cD cE cF cG bO = some (true, ()) := by
 have h : (List.length aN + wl dJ aN) + (List.length aJ + wl bt aJ) + (List.length bf + wl dJ bf) + (List.length aT + wl vU aT) + (List.length bO + wl dJ bO) ≤ 4194304 := h; unfold sQ; simp only [decide_true, beq_self_eq_true, Bool.not_true, Bool.not_false, cond_true, cond_false, dG, Option.bind_some, GH aM aN (by show (List.length aN + wl dJ aN) ≤ 4194304; omega), D8 aJ (by show (List.length aJ + wl bt aJ) ≤ 4194304; omega), Cy bf (by show (List.length bf + wl dJ bf) ≤ 4194304; omega), J3 aT (by show (List.length aT + wl vU aT) ≤ 4194304; omega), D9 cC cD cE cF cG bO (by show (List.length bO + wl dJ bO) ≤ 4194304; omega)]
theorem MS (ba : Int) (aM : Int) (aN : Int) (aJ : ah) (h : aI (ba, aM, aN, aJ, ()) ≤ 4194304) : py ba aM aN aJ ba aM aN aJ = some (true, ()) := by
 have h : (List.length aJ + wl bt aJ) ≤ 4194304 := h; unfold py; simp only [decide_true, beq_self_eq_true, Bool.not_true, Bool.not_false, cond_true, cond_false, dG, Option.bind_some, D8 aJ (by show (List.length aJ + wl bt aJ) ≤ 4194304; omega)]
theorem J4 (a0 : ak) (h : List.length a0 + wl aI a0 ≤ 4194304) : od a0 a0 = some (true, ()) := by
 have hl : aE gp (a0, a0, (0 : Int), ()) = some (.inl ()) := by
   have := de (round := gp) (e := .inl ()) a0.length (fun k => (a0, a0, ((k : Nat) : Int), ())) (by
     simp only [gp, oc, aD, cond_false]) (fun k hk => by
     simp only [gp, oc, aw hk, ar, cond_true, cond_false, aC, List.getElem?_eq_getElem hk, Option.bind_some, decide_true, beq_self_eq_true, dG, Bool.not_true, aF (show k < 4611686018427387904 by omega), MS ((a0[k]).1) ((a0[k]).2.1) ((a0[k]).2.2.1) ((a0[k]).2.2.2.1) (Nat.le_trans (rP aI a0 _ (List.getElem_mem hk)) (by omega))])
   simpa using this
 unfold od; simp only [decide_true, Bool.not_true, cond_false, hl, ew]
theorem OQ (ba : Int) (aM : Int) (aN : au) (aJ : Int) (bf : Int) (aT : Int) (bZ : ByteArray) (bV : au) (h : aA (ba, aM, aN, aJ, bf, aT, bZ, bV, ()) ≤ 4194304) : rb ba aM aN aJ bf aT bZ bV ba aM aN aJ bf aT bZ bV = some (true, ()) := by
 have h : (List.length aN + wl dJ aN) + ByteArray.size bZ + (List.length bV + wl dJ bV) ≤ 4194304 := h; unfold rb; simp only [decide_true, beq_self_eq_true, Bool.not_true, Bool.not_false, cond_true, cond_false, dG, Option.bind_some, GH aM aN (by show (List.length aN + wl dJ aN) ≤ 4194304; omega), K5 aJ bf aT bZ (by show ByteArray.size bZ ≤ 4194304; omega), Cy bV (by show (List.length bV + wl dJ bV) ≤ 4194304; omega)]
theorem MT (a0 : ai) (h : List.length a0 + wl aA a0 ≤ 4194304) : pz a0 a0 = some (true, ()) := by
 have hl : aE ig (a0, a0, (0 : Int), ()) = some (.inl ()) := by
   have := de (round := ig) (e := .inl ()) a0.length (fun k => (a0, a0, ((k : Nat) : Int), ())) (by
     simp only [ig, oX, aD, cond_false]) (fun k hk => by
     simp only [ig, oX, aw hk, ar, cond_true, cond_false, aC, List.getElem?_eq_getElem hk, Option.bind_some, decide_true, beq_self_eq_true, dG, Bool.not_true, aF (show k < 4611686018427387904 by omega), OQ ((a0[k]).1) ((a0[k]).2.1) ((a0[k]).2.2.1) ((a0[k]).2.2.2.1) ((a0[k]).2.2.2.2.1) ((a0[k]).2.2.2.2.2.1) ((a0[k]).2.2.2.2.2.2.1) ((a0[k]).2.2.2.2.2.2.2.1) (Nat.le_trans (rP aA a0 _ (List.getElem_mem hk)) (by omega))])
   simpa using this
 unfold pz; simp only [decide_true, Bool.not_true, cond_false, hl, ew]
theorem FE (ba : Int) (aM : Bool) (aN : Int) (aJ : Int) (bf : au) (aT : ah) (bZ : au) (bV : dk) (fO : Int) (fP : Int) (cC : Int) (cD : Int) (cE : Int) (cF : Int) (cG : Int) (bO : Int) (iB : Int) (dv : au) (lf : Int) (lh : Int) (iC : Int) (dE : au) (dF : ak) (dQ : ai) (h : bD (ba, aM, aN, aJ, bf, aT, bZ, bV, fO, fP, cC, cD, cE, cF, cG, bO, iB, dv, lf, lh, iC, dE, dF, dQ, ()) ≤ 4194304) : eW ba aM aN aJ bf aT bZ bV fO fP cC cD cE cF cG bO iB dv lf lh iC dE dF dQ ba aM aN aJ bf aT bZ bV fO fP cC cD cE cF cG bO iB dv lf lh iC dE dF dQ = some (true, ()) := by
 have h : (List.length bf + wl dJ bf) + (List.length aT + wl bt aT) + (List.length bZ + wl dJ bZ) + (List.length bV + wl vU bV) + (List.length dv + wl dJ dv) + (List.length dE + wl dJ dE) + (List.length dF + wl aI dF) + (List.length dQ + wl aA dQ) ≤ 4194304 := h; unfold eW; simp only [decide_true, beq_self_eq_true, Bool.not_true, Bool.not_false, cond_true, cond_false, dG, Option.bind_some, QV aN aJ bf aT bZ bV fO fP cC cD cE cF cG bO iB dv (by show (List.length bf + wl dJ bf) + (List.length aT + wl bt aT) + (List.length bZ + wl dJ bZ) + (List.length bV + wl vU bV) + (List.length dv + wl dJ dv) ≤ 4194304; omega), GH iC dE (by show (List.length dE + wl dJ dE) ≤ 4194304; omega), J4 dF (by show (List.length dF + wl aI dF) ≤ 4194304; omega), MT dQ (by show (List.length dQ + wl aA dQ) ≤ 4194304; omega)]
def OR (y : Int × Unit) : UInt8 := UInt8.ofNat y.1.toNat
theorem GI (ys : List (Int × Unit)) : (bytesOf ys).data.toList = ys.map OR := by
 have key : ∀ (ys : List (Int × Unit)) (s : ByteArray), (List.foldl (fun (r : ByteArray) (y : Int × Unit) => r.push (UInt8.ofNat y.1.toNat)) s ys).data.toList = s.data.toList ++ ys.map OR := by
   intro ys
   induction ys with
   | nil => intro s; simp
   | cons y ys ih =>
     intro s; rw [List.foldl_cons, ih]; simp [OR]
 have := key ys ByteArray.empty; exact this
theorem GJ (ys : List (Int × Unit)) : (bytesOf ys).size = ys.length := by
 have h1 : (bytesOf ys).data.toList.length = (bytesOf ys).size := Array.length_toList; rw [← h1, GI, List.length_map]
def QW {B : Type} : Sum (ByteArray × Unit) B → Prop
 | .inl y => y.1.size ≤ 20
 | .inr _ => False
theorem wT (n : Nat) (h : n < 1099511627776) : ∃ b : ByteArray, eC ((n : Nat) : Int) = some (b, ()) := by
 unfold eC
 by_cases h0 : ((n : Nat) : Int) ≤ 0
 · rw [ae h0]; exact ⟨_, rfl⟩
 rw [af h0]; obtain ⟨e, he, hq⟩ := eY (round := ij) (x := (((n : Nat) : Int), (ByteArray.mk #[]), ())) 20 (fun k x => ∃ (m : Nat) (out : ByteArray), x = (((m : Nat) : Int), out, ()) ∧ m ≤ n ∧ m < 10 ^ (20 - k) ∧ out.size = k)
   QW (by
   rintro x ⟨m, out, rfl, hn, hm, hl⟩
   have hm : m < 1 := hm; refine ⟨.inl (out, ()), ?_, by show out.size ≤ 20; omega⟩; simp only [ij, lU, af (show ¬ (0 : Int) < ((m : Nat) : Int) by omega), cond_false]) (by
   rintro k x hk ⟨m, out, rfl, hn, hm, hl⟩
   by_cases h1 : 0 < m
   · have hd : Int.tdiv ((m : Nat) : Int) (10 : Int) = ((m / 10 : Nat) : Int) := rfl; have hbz : ByteArray.size (bytesOf [(IntKind.u8.wrap (IntKind.i64.wrap ((48 : Int) + (Int.tmod ((m : Nat) : Int) (10 : Int)))), ())]) = 1 := GJ _; refine .inr ⟨(((m / 10 : Nat) : Int), bytesOf [(IntKind.u8.wrap (IntKind.i64.wrap ((48 : Int) + (Int.tmod ((m : Nat) : Int) (10 : Int)))), ())] ++ out, ()), ?_, m / 10, bytesOf [(IntKind.u8.wrap (IntKind.i64.wrap ((48 : Int) + (Int.tmod ((m : Nat) : Int) (10 : Int)))), ())] ++ out, rfl, by omega, ?_, ?_⟩
     · simp only [ij, lU, ae (show (0 : Int) < ((m : Nat) : Int) by omega), cond_true, hd, dR (show -9223372036854775808 ≤ ((m / 10 : Nat) : Int) by omega) (show ((m / 10 : Nat) : Int) < 9223372036854775808 by omega), hbz,
         bm (show 1 + out.size ≤ lim by unfold lim; omega)]
     · have e1 : 20 - k = (20 - (k + 1)) + 1 := by omega
       rw [e1, Nat.pow_succ] at hm; omega
     · rw [ByteArray.size_append, hbz]; omega
   · refine .inl ⟨.inl (out, ()), ?_, by show out.size ≤ 20; omega⟩; simp only [ij, lU, af (show ¬ (0 : Int) < ((m : Nat) : Int) by omega), cond_false]) ⟨n, _, rfl, Nat.le_refl _, by show n < 100000000000000000000; omega, rfl⟩
 rw [he]
 cases e with
 | inr e => exact hq.elim
 | inl e =>
   have hq : e.1.size ≤ 20 := hq; simp only [cond_false, ew, bm (show 1 + ByteArray.size e.1 ≤ lim by unfold lim; omega), cond_true]; exact ⟨_, rfl⟩
noncomputable def vB (n : Nat) : ByteArray := if h : n < 1099511627776 then Classical.choose (wT n h) else ByteArray.empty
theorem tS {n : Nat} (h : n < 1099511627776) : eC ((n : Nat) : Int) = some (vB n, ()) := by
 unfold vB; rw [dif_pos h]; exact Classical.choose_spec (wT n h)
theorem K6 (k : Nat) : decide (((k : Nat) : Int) < (0 : Int)) = false := af (by omega)
theorem kN {k : Nat} (h : k ≤ 1073741824) : IntKind.i64.wrap (((k : Nat) : Int) + (1 : Int)) = (((k + 1 : Nat)) : Int) := aF (by omega)
theorem IA {k : Nat} (h : k ≤ 1073741824) : eC ((k : Nat) : Int) = some (vB k, ()) := tS (by omega)
theorem Ea {α : Type} (f g : α → Nat) (c : Nat) (h : ∀ x, f x ≤ c * (1 + g x)) : (xs : List α) → wl f xs ≤ c * (xs.length + wl g xs)
 | [] => Nat.zero_le _
 | x :: xs => by
   have h1 := h x; have h2 := Ea f g c h xs; rw [zS, zS, List.length_cons]; have e : c * (xs.length + 1 + (g x + wl g xs)) = c * (1 + g x) + c * (xs.length + wl g xs) := by rw [← Nat.mul_add]; congr 1; omega
   omega
theorem Eb {α : Type} (f : α → Nat) (xs : List α) {k : Nat} (hk : k < xs.length) : wl f (xs.take k) + f xs[k] ≤ wl f xs := by
 have h1 := uz f xs hk; have h2 : wl f xs = wl f (xs.take (k + 1)) + wl f (xs.drop (k + 1)) := by rw [← Gp, List.take_append_drop]
 omega
theorem FF {α B : Type} (M : α → Nat) (HD : α → Nat → α → Prop) (round : List α × Int × Int × Unit → Option (Sum (List α × Int × Int × Unit) (Sum (List α × Int × Unit) B))) (xs : List α) (a : Nat)
   (Gn : ∀ (l : List α) (m : Int), l.length = xs.length → round (l, m, ((xs.length : Nat) : Int), ()) = some (.inr (.inl (l, m, ()))))
   (vL : ∀ (l : List α) (k : Nat) (hk : k < xs.length) (n : Nat), l.length = xs.length → l[k]? = some xs[k] → n + M xs[k] ≤ a + wl M xs → ∃ y, HD xs[k] n y ∧ round (l, ((n : Nat) : Int), ((k : Nat) : Int), ()) = some (.inl (l.set k y, ((n + M xs[k] : Nat) : Int), ((k + 1 : Nat) : Int), ()))) :
   ∃ l, aE round (xs, ((a : Nat) : Int), (0 : Int), ()) = some (.inl (l, ((a + wl M xs : Nat) : Int), ())) ∧ l.length = xs.length ∧ ∀ j (hj : j < xs.length), ∃ y, l[j]? = some y ∧ HD xs[j] (a + wl M (xs.take j)) y := by
 obtain ⟨e, he, l, rfl, hl, hj⟩ := eY (round := round) (x := (xs, ((a : Nat) : Int), ((0 : Nat) : Int), ())) xs.length
   (fun k x => ∃ l : List α, x = (l, ((a + wl M (xs.take k) : Nat) : Int), ((k : Nat) : Int), ()) ∧ l.length = xs.length ∧ (∀ j (hj : j < xs.length), j < k → ∃ y, l[j]? = some y ∧ HD xs[j] (a + wl M (xs.take j)) y) ∧ ∀ j (hj : j < xs.length), k ≤ j → l[j]? = some xs[j])
   (fun e => ∃ l : List α, e = .inl (l, ((a + wl M xs : Nat) : Int), ()) ∧ l.length = xs.length ∧ ∀ j (hj : j < xs.length), ∃ y, l[j]? = some y ∧ HD xs[j] (a + wl M (xs.take j)) y) (by
   rintro x ⟨l, rfl, hl, hj, _⟩
   rw [List.take_length]; exact ⟨_, Gn l _ hl, l, rfl, hl, fun j VA => hj j VA VA⟩) (by
   rintro k x hk ⟨l, rfl, hl, h1, h2⟩
   have hb := Eb M xs hk; obtain ⟨y, hy, hr⟩ := vL l k hk (a + wl M (xs.take k)) hl (h2 k hk (Nat.le_refl _)) (by omega); refine .inr ⟨_, hr, l.set k y, by rw [Nat.add_assoc, ← uz M xs hk], by simp [hl], fun j hj AW => ?_, fun j hj AW => ?_⟩
   · by_cases e : k = j
     · subst e; exact ⟨y, by rw [List.getElem?_set_self (by omega)], hy⟩
     · rw [List.getElem?_set_ne e]; exact h1 j hj (by omega)
   · rw [List.getElem?_set_ne (by omega)]; exact h2 j hj (by omega)) ⟨xs, by rw [List.take_zero]; rfl, rfl, fun j _ h => by omega, fun j hj _ => List.getElem?_eq_getElem hj⟩
 exact ⟨l, he, hl, hj⟩
theorem FG {α B : Type} (M : α → Nat) (HD : α → Nat → α → Prop) (round : List α × Int × Int × Unit → Option (Sum (List α × Int × Int × Unit) (Sum (Int × Unit) B))) (xs l : List α) (a : Nat) (hl : l.length = xs.length)
   (hy : ∀ j (hj : j < xs.length), ∃ y, l[j]? = some y ∧ HD xs[j] (a + wl M (xs.take j)) y)
   (Gn : ∀ m : Int, round (l, m, ((xs.length : Nat) : Int), ()) = some (.inr (.inl (m, ()))))
   (vL : ∀ (k : Nat) (hk : k < xs.length) (n : Nat) (y : α), k < l.length → l[k]? = some y → HD xs[k] n y → n + M xs[k] ≤ a + wl M xs → round (l, ((n : Nat) : Int), ((k : Nat) : Int), ()) = some (.inl (l, ((n + M xs[k] : Nat) : Int), ((k + 1 : Nat) : Int), ()))) :
   aE round (l, ((a : Nat) : Int), (0 : Int), ()) = some (.inl (((a + wl M xs : Nat) : Int), ())) := by
 have h := de (round := round) (e := .inl (((a + wl M xs : Nat) : Int), ())) xs.length (fun k => (l, ((a + wl M (xs.take k) : Nat) : Int), ((k : Nat) : Int), ())) (by
   rw [List.take_length]; exact Gn _) (fun k hk => by
   have hb := Eb M xs hk; obtain ⟨y, h1, h2⟩ := hy k hk; have := vL k hk _ y (by omega) h1 h2 (by omega); rw [this, Nat.add_assoc, ← uz M xs hk])
 have h : aE round (l, ((a + wl M (xs.take 0) : Nat) : Int), (0 : Int), ()) = _ := h
 rwa [List.take_zero] at h
noncomputable def Ec (n : Nat) : Int × Unit := (((n + 0 : Nat) : Int), ())
def J5 (n a : Nat) {B : Type} : Sum ((au) × Int × Unit) B → Prop
 | .inl y => y.2.1 = ((a + 1 * n : Nat) : Int) ∧ y.1.length = n ∧ ∀ j, j < n → y.1[j]? = some (Ec (a + 1 * j))
 | .inr _ => False
theorem Ar (xs : au) (a : Nat) (h : List.length xs ≤ 4194304) (ha : a ≤ 1073741824) : ∃ l, hM xs ((a : Nat) : Int) = some (((a + 1 * List.length xs : Nat) : Int), l, ()) ∧ eX l ((a : Nat) : Int) = some (((a + 1 * List.length xs : Nat) : Int), ()) ∧ List.length l = List.length xs := by
 obtain ⟨e, he, hq⟩ := eY (round := jY) (x := (xs, ((a : Nat) : Int), ((0 : Nat) : Int), ())) xs.length (fun k x => ∃ l : au, x = (l, ((a + 1 * k : Nat) : Int), ((k : Nat) : Int), ()) ∧ l.length = xs.length ∧ ∀ j, j < k → l[j]? = some (Ec (a + 1 * j)))
   (J5 xs.length a) (by
   rintro x ⟨l, rfl, hl, hj⟩
   refine ⟨.inl (l, ((a + 1 * xs.length : Nat) : Int), ()), ?_, rfl, hl, hj⟩; simp only [jY, oY, hl, aD, cond_false]) (by
   rintro k x hk ⟨l, rfl, hl, hj⟩
   have Ed : k < l.length := by omega
   refine .inr ⟨_, ?_, l.set k (Ec (a + 1 * k)), rfl, by simp [hl], fun j VA => ?_⟩
   · have e0 : ((a + 1 * k : Nat) : Int) = ((a + 1 * k + 0 : Nat) : Int) := rfl; have e1 : IntKind.i64.wrap (((a + 1 * k + 0 : Nat) : Int) + (1 : Int)) = ((a + 1 * k + 1 : Nat) : Int) := by rw [dR] <;> omega
     have ez : ((a + 1 * k + 1 : Nat) : Int) = ((a + 1 * (k + 1) : Nat) : Int) := by omega
     rw [e0]; simp only [jY, oY, aw Ed, ar, cond_true, aC, List.length_set, iq Ed, List.getElem?_eq_getElem Ed, List.getElem?_set_self Ed, List.set_set, Option.bind_some, e1, ez, aF (show k < 4611686018427387904 by omega)]; rfl
   · rw [List.getElem?_set]
     by_cases AW : k = j
     · subst AW; rw [if_pos rfl, if_pos Ed]
     · rw [if_neg AW]; exact hj j (by omega)) ⟨xs, rfl, rfl, fun j hj => by omega⟩
 cases e with
 | inr e => exact hq.elim
 | inl e =>
   obtain ⟨q1, q2, q3⟩ := hq; obtain ⟨l, m, u⟩ := e; simp only at q1 q2 q3; subst q1; refine ⟨l, ?_, ?_, q2⟩
   · unfold hM; rw [show (0 : Int) = ((0 : Nat) : Int) from rfl, he]; rfl
   · have hl := de (round := ik) (e := .inl (((a + 1 * xs.length : Nat) : Int), ())) xs.length (fun k => (l, ((a + 1 * k : Nat) : Int), ((k : Nat) : Int), ())) (by
       simp only [ik, oZ, q2, aD, cond_false]) (fun k hk => by
       have Ed : k < l.length := by omega
       have Rh : l[k]? = some (((a + 1 * k + 0 : Nat) : Int), ()) := q3 k hk; have e0 : ((a + 1 * k : Nat) : Int) = ((a + 1 * k + 0 : Nat) : Int) := rfl; have e1 : IntKind.i64.wrap (((a + 1 * k + 0 : Nat) : Int) + (1 : Int)) = ((a + 1 * k + 1 : Nat) : Int) := by rw [dR] <;> omega
       have ez : ((a + 1 * k + 1 : Nat) : Int) = ((a + 1 * (k + 1) : Nat) : Int) := by omega
       rw [e0]; simp only [ik, oZ, aw Ed, ar, cond_true, cond_false, aC, Rh, decide_true, dG, Bool.not_true, Option.bind_some, e1, ez, aF (show k < 4611686018427387904 by omega)])
     unfold eX; have hl : aE ik (l, ((a + 1 * 0 : Nat) : Int), (0 : Int), ()) = _ := hl; rw [Nat.mul_zero, Nat.add_zero] at hl; rw [hl]; rfl
theorem K7 (ba : Int) (aM : au) (a : Nat) (h1 : List.length aM ≤ 4194304) (ha : a ≤ 536870912) : ∃ l1, mF ba aM ((a : Nat) : Int) = some (((a + 1 * List.length aM : Nat) : Int), l1, ()) ∧ mG ba l1 ((a : Nat) : Int) = some (((a + 1 * List.length aM : Nat) : Int), ()) ∧ List.length l1 = List.length aM := by
 obtain ⟨l1, e0, g0, nl1⟩ := Ar aM (a) h1 (by omega); refine ⟨l1, ?_, ?_, nl1⟩
 · simp only [mF, e0, Option.bind_some]
 · simp only [mG, g0, Option.bind_some, cond_false, af (show ¬ ((a + 1 * List.length aM : Nat) : Int) < 0 by omega)]
noncomputable def Be (n : Nat) : mZ := (((n + 0 : Nat) : Int), ((n + 1 : Nat) : Int), ((n + 2 : Nat) : Int), vB (n + 3), ())
def IB (n a : Nat) {B : Type} : Sum ((ah) × Int × Unit) B → Prop
 | .inl y => y.2.1 = ((a + 4 * n : Nat) : Int) ∧ y.1.length = n ∧ ∀ j, j < n → y.1[j]? = some (Be (a + 4 * j))
 | .inr _ => False
theorem Ee (xs : ah) (a : Nat) (h : List.length xs ≤ 4194304) (ha : a ≤ 1073741824) : ∃ l, iv xs ((a : Nat) : Int) = some (((a + 4 * List.length xs : Nat) : Int), l, ()) ∧ fk l ((a : Nat) : Int) = some (((a + 4 * List.length xs : Nat) : Int), ()) ∧ List.length l = List.length xs := by
 obtain ⟨e, he, hq⟩ := eY (round := iZ) (x := (xs, ((a : Nat) : Int), ((0 : Nat) : Int), ())) xs.length (fun k x => ∃ l : ah, x = (l, ((a + 4 * k : Nat) : Int), ((k : Nat) : Int), ()) ∧ l.length = xs.length ∧ ∀ j, j < k → l[j]? = some (Be (a + 4 * j)))
   (IB xs.length a) (by
   rintro x ⟨l, rfl, hl, hj⟩
   refine ⟨.inl (l, ((a + 4 * xs.length : Nat) : Int), ()), ?_, rfl, hl, hj⟩; simp only [iZ, oe, hl, aD, cond_false]) (by
   rintro k x hk ⟨l, rfl, hl, hj⟩
   have Ed : k < l.length := by omega
   refine .inr ⟨_, ?_, l.set k (Be (a + 4 * k)), rfl, by simp [hl], fun j VA => ?_⟩
   · have e0 : ((a + 4 * k : Nat) : Int) = ((a + 4 * k + 0 : Nat) : Int) := rfl; have e1 : IntKind.i64.wrap (((a + 4 * k + 0 : Nat) : Int) + (1 : Int)) = ((a + 4 * k + 1 : Nat) : Int) := by rw [dR] <;> omega
     have e2 : IntKind.i64.wrap (((a + 4 * k + 1 : Nat) : Int) + (1 : Int)) = ((a + 4 * k + 2 : Nat) : Int) := by rw [dR] <;> omega
     have e3 : IntKind.i64.wrap (((a + 4 * k + 2 : Nat) : Int) + (1 : Int)) = ((a + 4 * k + 3 : Nat) : Int) := by rw [dR] <;> omega
     have e4 : IntKind.i64.wrap (((a + 4 * k + 3 : Nat) : Int) + (1 : Int)) = ((a + 4 * k + 4 : Nat) : Int) := by rw [dR] <;> omega
     have ez : ((a + 4 * k + 4 : Nat) : Int) = ((a + 4 * (k + 1) : Nat) : Int) := by omega
     rw [e0]; simp only [iZ, oe, aw Ed, ar, cond_true, aC, List.length_set, iq Ed, List.getElem?_eq_getElem Ed, List.getElem?_set_self Ed, List.set_set, Option.bind_some, tS (show a + 4 * k + 3 < 1099511627776 by omega), e1, e2, e3, e4, ez, aF (show k < 4611686018427387904 by omega)]; rfl
   · rw [List.getElem?_set]
     by_cases AW : k = j
     · subst AW; rw [if_pos rfl, if_pos Ed]
     · rw [if_neg AW]; exact hj j (by omega)) ⟨xs, rfl, rfl, fun j hj => by omega⟩
 cases e with
 | inr e => exact hq.elim
 | inl e =>
   obtain ⟨q1, q2, q3⟩ := hq; obtain ⟨l, m, u⟩ := e; simp only at q1 q2 q3; subst q1; refine ⟨l, ?_, ?_, q2⟩
   · unfold iv; rw [show (0 : Int) = ((0 : Nat) : Int) from rfl, he]; rfl
   · have hl := de (round := gq) (e := .inl (((a + 4 * xs.length : Nat) : Int), ())) xs.length (fun k => (l, ((a + 4 * k : Nat) : Int), ((k : Nat) : Int), ())) (by
       simp only [gq, og, q2, aD, cond_false]) (fun k hk => by
       have Ed : k < l.length := by omega
       have Rh : l[k]? = some (((a + 4 * k + 0 : Nat) : Int), ((a + 4 * k + 1 : Nat) : Int), ((a + 4 * k + 2 : Nat) : Int), vB (a + 4 * k + 3), ()) := q3 k hk; have e0 : ((a + 4 * k : Nat) : Int) = ((a + 4 * k + 0 : Nat) : Int) := rfl; have e1 : IntKind.i64.wrap (((a + 4 * k + 0 : Nat) : Int) + (1 : Int)) = ((a + 4 * k + 1 : Nat) : Int) := by rw [dR] <;> omega
       have e2 : IntKind.i64.wrap (((a + 4 * k + 1 : Nat) : Int) + (1 : Int)) = ((a + 4 * k + 2 : Nat) : Int) := by rw [dR] <;> omega
       have e3 : IntKind.i64.wrap (((a + 4 * k + 2 : Nat) : Int) + (1 : Int)) = ((a + 4 * k + 3 : Nat) : Int) := by rw [dR] <;> omega
       have e4 : IntKind.i64.wrap (((a + 4 * k + 3 : Nat) : Int) + (1 : Int)) = ((a + 4 * k + 4 : Nat) : Int) := by rw [dR] <;> omega
       have ez : ((a + 4 * k + 4 : Nat) : Int) = ((a + 4 * (k + 1) : Nat) : Int) := by omega
       rw [e0]; simp only [gq, og, aw Ed, ar, cond_true, cond_false, aC, Rh, decide_true, dG, Bool.not_true, Option.bind_some, tS (show a + 4 * k + 3 < 1099511627776 by omega), e1, e2, e3, e4, ez, aF (show k < 4611686018427387904 by omega)])
     unfold fk; have hl : aE gq (l, ((a + 4 * 0 : Nat) : Int), (0 : Int), ()) = _ := hl; rw [Nat.mul_zero, Nat.add_zero] at hl; rw [hl]; rfl
noncomputable def wU (n : Nat) : ByteArray × Unit := (vB (n + 0), ())
def EV (n a : Nat) {B : Type} : Sum ((dk) × Int × Unit) B → Prop
 | .inl y => y.2.1 = ((a + 1 * n : Nat) : Int) ∧ y.1.length = n ∧ ∀ j, j < n → y.1[j]? = some (wU (a + 1 * j))
 | .inr _ => False
theorem J6 (xs : dk) (a : Nat) (h : List.length xs ≤ 4194304) (ha : a ≤ 1073741824) : ∃ l, lV xs ((a : Nat) : Int) = some (((a + 1 * List.length xs : Nat) : Int), l, ()) ∧ lX l ((a : Nat) : Int) = some (((a + 1 * List.length xs : Nat) : Int), ()) ∧ List.length l = List.length xs := by
 obtain ⟨e, he, hq⟩ := eY (round := gN) (x := (xs, ((a : Nat) : Int), ((0 : Nat) : Int), ())) xs.length (fun k x => ∃ l : dk, x = (l, ((a + 1 * k : Nat) : Int), ((k : Nat) : Int), ()) ∧ l.length = xs.length ∧ ∀ j, j < k → l[j]? = some (wU (a + 1 * j)))
   (EV xs.length a) (by
   rintro x ⟨l, rfl, hl, hj⟩
   refine ⟨.inl (l, ((a + 1 * xs.length : Nat) : Int), ()), ?_, rfl, hl, hj⟩; simp only [gN, mg, hl, aD, cond_false]) (by
   rintro k x hk ⟨l, rfl, hl, hj⟩
   have Ed : k < l.length := by omega
   refine .inr ⟨_, ?_, l.set k (wU (a + 1 * k)), rfl, by simp [hl], fun j VA => ?_⟩
   · have e0 : ((a + 1 * k : Nat) : Int) = ((a + 1 * k + 0 : Nat) : Int) := rfl; have e1 : IntKind.i64.wrap (((a + 1 * k + 0 : Nat) : Int) + (1 : Int)) = ((a + 1 * k + 1 : Nat) : Int) := by rw [dR] <;> omega
     have ez : ((a + 1 * k + 1 : Nat) : Int) = ((a + 1 * (k + 1) : Nat) : Int) := by omega
     rw [e0]; simp only [gN, mg, aw Ed, ar, cond_true, aC, List.length_set, iq Ed, List.getElem?_eq_getElem Ed, List.getElem?_set_self Ed, List.set_set, Option.bind_some, tS (show a + 1 * k + 0 < 1099511627776 by omega), e1, ez, aF (show k < 4611686018427387904 by omega)]; rfl
   · rw [List.getElem?_set]
     by_cases AW : k = j
     · subst AW; rw [if_pos rfl, if_pos Ed]
     · rw [if_neg AW]; exact hj j (by omega)) ⟨xs, rfl, rfl, fun j hj => by omega⟩
 cases e with
 | inr e => exact hq.elim
 | inl e =>
   obtain ⟨q1, q2, q3⟩ := hq; obtain ⟨l, m, u⟩ := e; simp only at q1 q2 q3; subst q1; refine ⟨l, ?_, ?_, q2⟩
   · unfold lV; rw [show (0 : Int) = ((0 : Nat) : Int) from rfl, he]; rfl
   · have hl := de (round := fp) (e := .inl (((a + 1 * xs.length : Nat) : Int), ())) xs.length (fun k => (l, ((a + 1 * k : Nat) : Int), ((k : Nat) : Int), ())) (by
       simp only [fp, mi, q2, aD, cond_false]) (fun k hk => by
       have Ed : k < l.length := by omega
       have Rh : l[k]? = some (vB (a + 1 * k + 0), ()) := q3 k hk; have e0 : ((a + 1 * k : Nat) : Int) = ((a + 1 * k + 0 : Nat) : Int) := rfl; have e1 : IntKind.i64.wrap (((a + 1 * k + 0 : Nat) : Int) + (1 : Int)) = ((a + 1 * k + 1 : Nat) : Int) := by rw [dR] <;> omega
       have ez : ((a + 1 * k + 1 : Nat) : Int) = ((a + 1 * (k + 1) : Nat) : Int) := by omega
       rw [e0]; simp only [fp, mi, aw Ed, ar, cond_true, cond_false, aC, Rh, decide_true, dG, Bool.not_true, Option.bind_some, tS (show a + 1 * k + 0 < 1099511627776 by omega), e1, ez, aF (show k < 4611686018427387904 by omega)])
     unfold lX; have hl : aE fp (l, ((a + 1 * 0 : Nat) : Int), (0 : Int), ()) = _ := hl; rw [Nat.mul_zero, Nat.add_zero] at hl; rw [hl]; rfl
theorem Ef (ba : Int) (aM : Int) (aN : Int) (aJ : Int) (bf : Int) (aT : au) (a : Nat) (h5 : List.length aT ≤ 4194304) (ha : a ≤ 536870912) : ∃ l5, gh ba aM aN aJ bf aT ((a : Nat) : Int) = some (((a + 1 * List.length aT : Nat) : Int), l5, ()) ∧ iw ba aM aN aJ bf l5 ((a : Nat) : Int) = some (((a + 1 * List.length aT : Nat) : Int), ()) ∧ List.length l5 = List.length aT := by
 obtain ⟨l5, e0, g0, nl5⟩ := Ar aT (a) h5 (by omega); refine ⟨l5, ?_, ?_, nl5⟩
 · simp only [gh, e0, Option.bind_some]
 · simp only [iw, g0, Option.bind_some, cond_false, af (show ¬ ((a + 1 * List.length aT : Nat) : Int) < 0 by omega)]
theorem QX (ba : Int) (aM : Int) (aN : au) (aJ : ah) (bf : au) (aT : dk) (bZ : Int) (bV : Int) (fO : Int) (fP : Int) (cC : Int) (cD : Int) (cE : Int) (cF : Int) (cG : Int) (bO : au) (a : Nat) (h2 : List.length aN ≤ 4194304) (h3 : List.length aJ ≤ 4194304) (h4 : List.length bf ≤ 4194304) (h5 : List.length aT ≤ 4194304) (h15 : List.length bO ≤ 4194304) (ha : a ≤ 268435456) : ∃ l2 l3 l4 l5 l15, pA ba aM aN aJ bf aT bZ bV fO fP cC cD cE cF cG bO ((a : Nat) : Int) = some (((a + 1 * List.length aN + 4 * List.length aJ + 1 * List.length bf + 1 * List.length aT + 1 * List.length bO : Nat) : Int), l2, l3, l4, l5, l15, ()) ∧ pB ba aM l2 l3 l4 l5 bZ bV fO fP cC cD cE cF cG l15 ((a : Nat) : Int) = some (((a + 1 * List.length aN + 4 * List.length aJ + 1 * List.length bf + 1 * List.length aT + 1 * List.length bO : Nat) : Int), ()) ∧ List.length l2 = List.length aN ∧ List.length l3 = List.length aJ ∧ List.length l4 = List.length bf ∧ List.length l5 = List.length aT ∧ List.length l15 = List.length bO := by
 obtain ⟨l2, e0, g0, nl2⟩ := K7 aM aN (a) h2 (by omega); obtain ⟨l3, e1, g1, nl3⟩ := Ee aJ (a + 1 * List.length aN) h3 (by omega); obtain ⟨l4, e2, g2, nl4⟩ := Ar bf (a + 1 * List.length aN + 4 * List.length aJ) h4 (by omega); obtain ⟨l5, e3, g3, nl5⟩ := J6 aT (a + 1 * List.length aN + 4 * List.length aJ + 1 * List.length bf) h5 (by omega); obtain ⟨l15, e4, g4, agj⟩ := Ef cC cD cE cF cG bO (a + 1 * List.length aN + 4 * List.length aJ + 1 * List.length bf + 1 * List.length aT) h15 (by omega); refine ⟨l2, l3, l4, l5, l15, ?_, ?_, nl2, nl3, nl4, nl5, agj⟩
 · simp only [pA, e0, e1, e2, e3, e4, Option.bind_some]
 · simp only [pB, g0, g1, g2, g3, g4, Option.bind_some, cond_false, af (show ¬ ((a + 1 * List.length aN : Nat) : Int) < 0 by omega), af (show ¬ ((a + 1 * List.length aN + 4 * List.length aJ : Nat) : Int) < 0 by omega), af (show ¬ ((a + 1 * List.length aN + 4 * List.length aJ + 1 * List.length bf : Nat) : Int) < 0 by omega), af (show ¬ ((a + 1 * List.length aN + 4 * List.length aJ + 1 * List.length bf + 1 * List.length aT : Nat) : Int) < 0 by omega), af (show ¬ ((a + 1 * List.length aN + 4 * List.length aJ + 1 * List.length bf + 1 * List.length aT + 1 * List.length bO : Nat) : Int) < 0 by omega)]
def aO (x : cZ) : Nat := 1 + 1 + 1 + 4 * List.length x.2.2.2.1
theorem GK (x : cZ) : aO x ≤ 4 * (1 + aI x) := by
 unfold aO aI; omega
theorem EW (xs : List (cZ)) : wl aO xs ≤ 4 * (List.length xs + wl aI xs) := Ea _ _ 4 GK xs
def vC (x : cZ) (n : Nat) (y : cZ) : Prop := y.1 = ((n : Nat) : Int) ∧ y.2.1 = ((n + 1 : Nat) : Int) ∧ y.2.2.1 = ((n + 1 + 1 : Nat) : Int) ∧ fk y.2.2.2.1 ((n + 1 + 1 + 1 : Nat) : Int) = some (((n + 1 + 1 + 1 + 4 * List.length x.2.2.2.1 : Nat) : Int), ())
theorem J7 (l : List (cZ)) (k : Nat) (z : cZ) (n : Nat) (hk : k < l.length) (VB : k < 4611686018427387904) (hz : l[k]? = some z) (hw : aI z ≤ 4194304) (hn : n + aO z ≤ 553648128) : ∃ y, vC z n y ∧ fo (l, ((n : Nat) : Int), ((k : Nat) : Int), ()) = some (.inl (l.set k y, ((n + aO z : Nat) : Int), ((k + 1 : Nat) : Int), ())) := by
 have hm : n + 1 + 1 + 1 + 4 * List.length z.2.2.2.1 = n + aO z := by unfold aO; omega
 have b0 : n ≤ 1073741824 := by omega
 have b1 : n + 1 ≤ 1073741824 := by omega
 have b2 : n + 1 + 1 ≤ 1073741824 := by omega
 have b3 : n + 1 + 1 + 1 ≤ 1073741824 := by omega
 have hw0 : aI z = (List.length z.2.2.2.1 + wl bt z.2.2.2.1) := rfl; obtain ⟨l3, e3, g3, _⟩ := Ee z.2.2.2.1 (n + 1 + 1 + 1) (by omega) (by omega); refine ⟨(((n : Nat) : Int), ((n + 1 : Nat) : Int), ((n + 1 + 1 : Nat) : Int), l3, ()), ⟨rfl, rfl, rfl, g3⟩, ?_⟩; rw [← hm]; simp only [fo, mh, aw hk, ar, cond_true, aC, List.length_set, iq hk, hz, List.getElem?_set_self hk, List.set_set, Option.bind_some, e3, kN b0, kN b1, kN b2, aF VB]
theorem J8 (l : List (cZ)) (k : Nat) (z y : cZ) (n : Nat) (hk : k < l.length) (VB : k < 4611686018427387904) (hy : l[k]? = some y) (hd : vC z n y) (hn : n + aO z ≤ 553648128) : fq (l, ((n : Nat) : Int), ((k : Nat) : Int), ()) = some (.inl (l, ((n + aO z : Nat) : Int), ((k + 1 : Nat) : Int), ())) := by
 have hm : n + 1 + 1 + 1 + 4 * List.length z.2.2.2.1 = n + aO z := by unfold aO; omega
 have b0 : n ≤ 1073741824 := by omega
 have b1 : n + 1 ≤ 1073741824 := by omega
 have b2 : n + 1 + 1 ≤ 1073741824 := by omega
 have b3 : n + 1 + 1 + 1 ≤ 1073741824 := by omega
 obtain ⟨h0, h1, h2, h3⟩ := hd; rw [← hm]; simp only [fq, mj, aw hk, ar, cond_true, cond_false, aC, hy, decide_true, dG, beq_self_eq_true, Bool.not_true, Option.bind_some, h0, h1, h2, h3, kN b0, kN b1, kN b2, K6, aF VB]
theorem J9 (xs : List (cZ)) (a : Nat) (h : List.length xs + wl aI xs ≤ 4194304) (ha : a ≤ 536870912) : ∃ l, lW xs ((a : Nat) : Int) = some (((a + wl aO xs : Nat) : Int), l, ()) ∧ lY l ((a : Nat) : Int) = some (((a + wl aO xs : Nat) : Int), ()) ∧ (List.length l = List.length xs ∧ wl aO xs ≤ 4 * (List.length xs + wl aI xs)) := by
 have hm := EW xs; obtain ⟨l, h1, h2, h3⟩ := FF aO vC fo xs a (fun l m hl => by simp only [fo, mh, hl, aD, cond_false]) (fun l k hk n hl hz hn => J7 l k xs[k] n (by omega) (by omega) hz (Nat.le_trans (rP aI xs _ (List.getElem_mem hk)) (by omega)) (by omega)); refine ⟨l, ?_, ?_, h2, hm⟩
 · unfold lW; rw [h1]; rfl
 · have h4 := FG aO vC fq xs l a h2 h3 (fun m => by simp only [fq, mj, h2, aD, cond_false]) (fun k hk n y Bt hy hd hn => J8 l k xs[k] y n Bt (by omega) hy hd (by omega)); unfold lY; rw [h4]; rfl
def aG (x : bR) : Nat := 1 + 1 + 1 * List.length x.2.2.1 + 1 + 1 + 1 + 1 + 1 * List.length x.2.2.2.2.2.2.2.1
theorem Cl (x : bR) : aG x ≤ 6 * (1 + aA x) := by
 unfold aG aA; omega
theorem Bf (xs : List (bR)) : wl aG xs ≤ 6 * (List.length xs + wl aA xs) := Ea _ _ 6 Cl xs
def xm (x : bR) (n : Nat) (y : bR) : Prop := y.1 = ((n : Nat) : Int) ∧ y.2.1 = ((n + 1 : Nat) : Int) ∧ eX y.2.2.1 ((n + 1 + 1 : Nat) : Int) = some (((n + 1 + 1 + 1 * List.length x.2.2.1 : Nat) : Int), ()) ∧ y.2.2.2.1 = ((n + 1 + 1 + 1 * List.length x.2.2.1 : Nat) : Int) ∧ y.2.2.2.2.1 = ((n + 1 + 1 + 1 * List.length x.2.2.1 + 1 : Nat) : Int) ∧ y.2.2.2.2.2.1 = ((n + 1 + 1 + 1 * List.length x.2.2.1 + 1 + 1 : Nat) : Int) ∧ y.2.2.2.2.2.2.1 = vB (n + 1 + 1 + 1 * List.length x.2.2.1 + 1 + 1 + 1) ∧ eX y.2.2.2.2.2.2.2.1 ((n + 1 + 1 + 1 * List.length x.2.2.1 + 1 + 1 + 1 + 1 : Nat) : Int) = some (((n + 1 + 1 + 1 * List.length x.2.2.1 + 1 + 1 + 1 + 1 + 1 * List.length x.2.2.2.2.2.2.2.1 : Nat) : Int), ())
theorem MU (l : List (bR)) (k : Nat) (z : bR) (n : Nat) (hk : k < l.length) (VB : k < 4611686018427387904) (hz : l[k]? = some z) (hw : aA z ≤ 4194304) (hn : n + aG z ≤ 562036736) : ∃ y, xm z n y ∧ fJ (l, ((n : Nat) : Int), ((k : Nat) : Int), ()) = some (.inl (l.set k y, ((n + aG z : Nat) : Int), ((k + 1 : Nat) : Int), ())) := by
 have hm : n + 1 + 1 + 1 * List.length z.2.2.1 + 1 + 1 + 1 + 1 + 1 * List.length z.2.2.2.2.2.2.2.1 = n + aG z := by unfold aG; omega
 have b0 : n ≤ 1073741824 := by omega
 have b1 : n + 1 ≤ 1073741824 := by omega
 have b2 : n + 1 + 1 ≤ 1073741824 := by omega
 have b3 : n + 1 + 1 + 1 * List.length z.2.2.1 ≤ 1073741824 := by omega
 have b4 : n + 1 + 1 + 1 * List.length z.2.2.1 + 1 ≤ 1073741824 := by omega
 have b5 : n + 1 + 1 + 1 * List.length z.2.2.1 + 1 + 1 ≤ 1073741824 := by omega
 have b6 : n + 1 + 1 + 1 * List.length z.2.2.1 + 1 + 1 + 1 ≤ 1073741824 := by omega
 have b7 : n + 1 + 1 + 1 * List.length z.2.2.1 + 1 + 1 + 1 + 1 ≤ 1073741824 := by omega
 have hw0 : aA z = (List.length z.2.2.1 + wl dJ z.2.2.1) + ByteArray.size z.2.2.2.2.2.2.1 + (List.length z.2.2.2.2.2.2.2.1 + wl dJ z.2.2.2.2.2.2.2.1) := rfl; obtain ⟨l2, e2, g2, _⟩ := Ar z.2.2.1 (n + 1 + 1) (by omega) (by omega); obtain ⟨l7, e7, g7, _⟩ := Ar z.2.2.2.2.2.2.2.1 (n + 1 + 1 + 1 * List.length z.2.2.1 + 1 + 1 + 1 + 1) (by omega) (by omega); refine ⟨(((n : Nat) : Int), ((n + 1 : Nat) : Int), l2, ((n + 1 + 1 + 1 * List.length z.2.2.1 : Nat) : Int), ((n + 1 + 1 + 1 * List.length z.2.2.1 + 1 : Nat) : Int), ((n + 1 + 1 + 1 * List.length z.2.2.1 + 1 + 1 : Nat) : Int), vB (n + 1 + 1 + 1 * List.length z.2.2.1 + 1 + 1 + 1), l7, ()), ⟨rfl, rfl, g2, rfl, rfl, rfl, rfl, g7⟩, ?_⟩; rw [← hm]; simp only [fJ, m9, aw hk, ar, cond_true, aC, List.length_set, iq hk, hz, List.getElem?_set_self hk, List.set_set, Option.bind_some, e2, e7, kN b0, kN b1, kN b3, kN b4, kN b5, kN b6, IA b6, aF VB]
theorem MV (l : List (bR)) (k : Nat) (z y : bR) (n : Nat) (hk : k < l.length) (VB : k < 4611686018427387904) (hy : l[k]? = some y) (hd : xm z n y) (hn : n + aG z ≤ 562036736) : fK (l, ((n : Nat) : Int), ((k : Nat) : Int), ()) = some (.inl (l, ((n + aG z : Nat) : Int), ((k + 1 : Nat) : Int), ())) := by
 have hm : n + 1 + 1 + 1 * List.length z.2.2.1 + 1 + 1 + 1 + 1 + 1 * List.length z.2.2.2.2.2.2.2.1 = n + aG z := by unfold aG; omega
 have b0 : n ≤ 1073741824 := by omega
 have b1 : n + 1 ≤ 1073741824 := by omega
 have b2 : n + 1 + 1 ≤ 1073741824 := by omega
 have b3 : n + 1 + 1 + 1 * List.length z.2.2.1 ≤ 1073741824 := by omega
 have b4 : n + 1 + 1 + 1 * List.length z.2.2.1 + 1 ≤ 1073741824 := by omega
 have b5 : n + 1 + 1 + 1 * List.length z.2.2.1 + 1 + 1 ≤ 1073741824 := by omega
 have b6 : n + 1 + 1 + 1 * List.length z.2.2.1 + 1 + 1 + 1 ≤ 1073741824 := by omega
 have b7 : n + 1 + 1 + 1 * List.length z.2.2.1 + 1 + 1 + 1 + 1 ≤ 1073741824 := by omega
 obtain ⟨h0, h1, h2, h3, h4, h5, h6, h7⟩ := hd; rw [← hm]; simp only [fK, na, aw hk, ar, cond_true, cond_false, aC, hy, decide_true, dG, beq_self_eq_true, Bool.not_true, Option.bind_some, h0, h1, h2, h3, h4, h5, h6, h7, kN b0, kN b1, kN b3, kN b4, kN b5, kN b6, IA b6, K6, aF VB]
theorem MW (xs : List (bR)) (a : Nat) (h : List.length xs + wl aA xs ≤ 4194304) (ha : a ≤ 536870912) : ∃ l, mO xs ((a : Nat) : Int) = some (((a + wl aG xs : Nat) : Int), l, ()) ∧ mP l ((a : Nat) : Int) = some (((a + wl aG xs : Nat) : Int), ()) ∧ (List.length l = List.length xs ∧ wl aG xs ≤ 6 * (List.length xs + wl aA xs)) := by
 have hm := Bf xs; obtain ⟨l, h1, h2, h3⟩ := FF aG xm fJ xs a (fun l m hl => by simp only [fJ, m9, hl, aD, cond_false]) (fun l k hk n hl hz hn => MU l k xs[k] n (by omega) (by omega) hz (Nat.le_trans (rP aA xs _ (List.getElem_mem hk)) (by omega)) (by omega)); refine ⟨l, ?_, ?_, h2, hm⟩
 · unfold mO; rw [h1]; rfl
 · have h4 := FG aG xm fK xs l a h2 h3 (fun m => by simp only [fK, na, h2, aD, cond_false]) (fun k hk n y Bt hy hd hn => MV l k xs[k] y n Bt (by omega) hy hd (by omega)); unfold mP; rw [h4]; rfl
theorem FH (ba : Int) (aM : Bool) (aN : Int) (aJ : Int) (bf : au) (aT : ah) (bZ : au) (bV : dk) (fO : Int) (fP : Int) (cC : Int) (cD : Int) (cE : Int) (cF : Int) (cG : Int) (bO : Int) (iB : Int) (dv : au) (lf : Int) (lh : Int) (iC : Int) (dE : au) (dF : ak) (dQ : ai) (a : Nat) (h4 : List.length bf ≤ 4194304) (h5 : List.length aT ≤ 4194304) (h6 : List.length bZ ≤ 4194304) (h7 : List.length bV ≤ 4194304) (h17 : List.length dv ≤ 4194304) (h21 : List.length dE ≤ 4194304) (h22 : List.length dF + wl aI dF ≤ 4194304) (h23 : List.length dQ + wl aA dQ ≤ 4194304) (ha : a ≤ 134217728) : ∃ l4 l5 l6 l7 l17 l21 WK WL, eF ba aM aN aJ bf aT bZ bV fO fP cC cD cE cF cG bO iB dv lf lh iC dE dF dQ ((a : Nat) : Int) = some (((a + 1 * List.length bf + 4 * List.length aT + 1 * List.length bZ + 1 * List.length bV + 1 * List.length dv + 1 * List.length dE + wl aO dF + wl aG dQ : Nat) : Int), l4, l5, l6, l7, l17, l21, WK, WL, ()) ∧ fv ba aM aN aJ l4 l5 l6 l7 fO fP cC cD cE cF cG bO iB l17 lf lh iC l21 WK WL ((a : Nat) : Int) = some (((a + 1 * List.length bf + 4 * List.length aT + 1 * List.length bZ + 1 * List.length bV + 1 * List.length dv + 1 * List.length dE + wl aO dF + wl aG dQ : Nat) : Int), ()) ∧ List.length l4 = List.length bf ∧ List.length l5 = List.length aT ∧ List.length l6 = List.length bZ ∧ List.length l7 = List.length bV ∧ List.length l17 = List.length dv ∧ List.length l21 = List.length dE ∧ (List.length WK = List.length dF ∧ wl aO dF ≤ 4 * (List.length dF + wl aI dF)) ∧ (List.length WL = List.length dQ ∧ wl aG dQ ≤ 6 * (List.length dQ + wl aA dQ)) := by
 obtain ⟨l4, l5, l6, l7, l17, e0, g0, nl4, nl5, nl6, nl7, agk⟩ := QX aN aJ bf aT bZ bV fO fP cC cD cE cF cG bO iB dv (a) h4 h5 h6 h7 h17 (by omega); obtain ⟨l21, e1, g1, agl⟩ := K7 iC dE (a + 1 * List.length bf + 4 * List.length aT + 1 * List.length bZ + 1 * List.length bV + 1 * List.length dv) h21 (by omega); obtain ⟨WK, e2, g2, agm⟩ := J9 dF (a + 1 * List.length bf + 4 * List.length aT + 1 * List.length bZ + 1 * List.length bV + 1 * List.length dv + 1 * List.length dE) h22 (by omega); obtain ⟨WL, e3, g3, agn⟩ := MW dQ (a + 1 * List.length bf + 4 * List.length aT + 1 * List.length bZ + 1 * List.length bV + 1 * List.length dv + 1 * List.length dE + wl aO dF) h23 (by omega); refine ⟨l4, l5, l6, l7, l17, l21, WK, WL, ?_, ?_, nl4, nl5, nl6, nl7, agk, agl, agm, agn⟩
 · simp only [eF, e0, e1, e2, e3, Option.bind_some]
 · simp only [fv, g0, g1, g2, g3, Option.bind_some, cond_false, af (show ¬ ((a + 1 * List.length bf + 4 * List.length aT + 1 * List.length bZ + 1 * List.length bV + 1 * List.length dv : Nat) : Int) < 0 by omega), af (show ¬ ((a + 1 * List.length bf + 4 * List.length aT + 1 * List.length bZ + 1 * List.length bV + 1 * List.length dv + 1 * List.length dE : Nat) : Int) < 0 by omega), af (show ¬ ((a + 1 * List.length bf + 4 * List.length aT + 1 * List.length bZ + 1 * List.length bV + 1 * List.length dv + 1 * List.length dE + wl aO dF : Nat) : Int) < 0 by omega), af (show ¬ ((a + 1 * List.length bf + 4 * List.length aT + 1 * List.length bZ + 1 * List.length bV + 1 * List.length dv + 1 * List.length dE + wl aO dF + wl aG dQ : Nat) : Int) < 0 by omega)]
theorem nt (a b c : Int) : bM a b c = some (decide (b ≤ a) && decide (a ≤ c), ()) := by
 unfold bM
 cases decide (b ≤ a) <;> rfl
theorem su (a b c : Int) : bQ a b c = some (decide (b ≤ a) && decide (a ≤ c), ()) := by
 unfold bQ
 cases decide (b ≤ a) <;> rfl
theorem nu (a : Int) : fT a = some (decide (1 ≤ a) && decide (a ≤ 5), ()) := by
 unfold fT; rw [su]; rfl
def CA {A B : Type} : Sum A (Bool × Unit) → Sum B (Bool × Unit) → Prop
 | .inl _, .inl _ => True
 | .inr a, .inr b => a.1 = b.1
 | _, _ => False
theorem rz {k : Nat} (h0 : 0 < k) (h : k < 4611686018427387904) : IntKind.i64.wrap (((k : Nat) : Int) - (1 : Int)) = (((k - 1 : Nat)) : Int) := by
 rw [dR] <;> omega
theorem MX (c : Int) (xs : List (Int × Unit)) (h : xs.length ≤ 1048576) :
   ∃ e f, aE ff (c, xs, (0 : Int), ()) = some e ∧ aE ln (c, xs, xs, ((List.length xs : Nat) : Int), (0 : Int), ()) = some f ∧ CA e f := by
 refine nM xs.length (fun k x y => x = (c, xs, ((k : Nat) : Int), ()) ∧ y = (c, xs, xs, ((List.length xs : Nat) : Int), ((k : Nat) : Int), ())) CA ?_ ⟨rfl, rfl⟩
 rintro k x y hk ⟨rfl, rfl⟩
 by_cases dm : k < xs.length
 · simp only [ff, lk, ln, sd, aw dm, ar, cond_true, aC, List.getElem?_eq_getElem dm, Option.bind_some, nt, nu, aF (show k < 4611686018427387904 by omega)]
   cases (decide (1 ≤ xs[k].1) && decide (xs[k].1 ≤ 5))
   · exact .inl ⟨.inr (false, ()), .inr (false, ()), rfl, rfl, rfl⟩
   · by_cases h0 : 0 < k
     · have hp : k - 1 < xs.length := by omega
       rw [rz h0 (by omega)]; simp only [ae (show (0 : Int) < ((k : Nat) : Int) by omega), Bool.not_true, cond_false, cond_true, ar, aC, List.getElem?_eq_getElem hp, Option.bind_some]
       cases decide (xs[k].1 ≤ xs[k - 1].1)
       · exact .inr ⟨dm, _, _, rfl, rfl, rfl, rfl⟩
       · exact .inl ⟨.inr (false, ()), .inr (false, ()), rfl, rfl, rfl⟩
     · have : k = 0 := by omega
       subst this; simp only [af (show ¬ (0 : Int) < ((0 : Nat) : Int) by omega), Bool.not_true, cond_false]; exact .inr ⟨dm, _, _, rfl, rfl, rfl, rfl⟩
 · have : k = xs.length := by omega
   subst this; exact .inl ⟨.inl (), .inl (), by simp only [ff, lk, aD, cond_false], by simp only [ln, sd, aD, cond_false], trivial⟩
theorem xn (c : Int) (xs : List (Int × Unit)) (h : xs.length ≤ 1048576) : ∃ b, gY c xs = some (b, ()) ∧ lq c xs = some (b, ()) ∧ (b = true → 1 ≤ xs.length ∧ xs.length ≤ 5) := by
 obtain ⟨e, f, h1, h2, h3⟩ := MX c xs h; unfold gY lq; simp only [nt, su, Option.bind_some, h1, h2]
 cases (decide (1 ≤ c) && decide (c ≤ 9))
 · exact ⟨false, rfl, rfl, fun h => by cases h⟩
 cases hb : (decide (1 ≤ ((List.length xs : Nat) : Int)) && decide (((List.length xs : Nat) : Int) ≤ 5))
 · exact ⟨false, rfl, rfl, fun h => by cases h⟩
 have hl : 1 ≤ xs.length ∧ xs.length ≤ 5 := by
   rw [Bool.and_eq_true, decide_eq_true_eq, decide_eq_true_eq] at hb; omega
 cases e with
 | inl e => cases f with
   | inl f => exact ⟨true, rfl, rfl, fun _ => hl⟩
   | inr f => exact h3.elim
 | inr e => cases f with
   | inl f => exact h3.elim
   | inr f => exact ⟨e.1, rfl, by rw [show e.1 = f.1 from h3]; rfl, fun _ => hl⟩
def RK (e : Sum Unit (Bool × Unit)) (f : Sum Unit (Int × Unit)) : Prop := ∃ b, (e = .inl () ∧ f = .inl () ∧ b = false) ∨ (e = .inr (true, ()) ∧ (∃ k : Nat, f = .inr (((k : Nat) : Int), ())) ∧ b = true)
theorem QY (d : Int) (xs : List (Int × Unit)) (h : xs.length ≤ 1048576) :
   ∃ e f, aE dB (xs, d, (0 : Int), ()) = some e ∧ aE gM (xs, d, ((List.length xs : Nat) : Int), (0 : Int), ()) = some f ∧ RK e f := by
 refine nM xs.length (fun k x y => x = (xs, d, ((k : Nat) : Int), ()) ∧ y = (xs, d, ((List.length xs : Nat) : Int), ((k : Nat) : Int), ())) RK ?_ ⟨rfl, rfl⟩
 rintro k x y hk ⟨rfl, rfl⟩
 by_cases dm : k < xs.length
 · simp only [dB, jo, gM, mf, aw dm, ar, cond_true, aC, List.getElem?_eq_getElem dm, Option.bind_some, aF (show k < 4611686018427387904 by omega)]
   by_cases hd : xs[k].1 = d
   · rw [ae hd, ae hd.symm]; exact .inl ⟨.inr (true, ()), .inr (((k : Nat) : Int), ()), rfl, rfl, true, .inr ⟨rfl, ⟨k, rfl⟩, rfl⟩⟩
   · rw [af hd, af (fun e => hd e.symm)]; exact .inr ⟨dm, _, _, rfl, rfl, rfl, rfl⟩
 · have : k = xs.length := by omega
   subst this; exact .inl ⟨.inl (), .inl (), by simp only [dB, jo, aD, cond_false], by simp only [gM, mf, aD, cond_false], false, .inl ⟨rfl, rfl, rfl⟩⟩
theorem pC (d : Int) (xs : List (Int × Unit)) (h : xs.length ≤ 1048576) : ∃ b, fh xs d = some (b, ()) ∧ eb xs d = some (b, ()) := by
 obtain ⟨e, f, h1, h2, b, h3⟩ := QY d xs h; unfold fh eb oS; rw [h1, h2]; rcases h3 with ⟨rfl, rfl, rfl⟩ | ⟨rfl, ⟨k, rfl⟩, rfl⟩
 · exact ⟨false, rfl, rfl⟩
 · refine ⟨true, rfl, ?_⟩; simp only [dK, Option.bind_some, ar]
def OS (t : Int × Int × Int × Int × Int × (List (Int × Unit)) × Unit) : Sum Unit (Bool × Unit) → Sum (Int × Int × Int × Int × Int × (List (Int × Unit)) × Unit) (Bool × Unit) → Prop
 | .inl _, .inl z => z = t
 | .inr a, .inr b => a.1 = false ∧ b.1 = false
 | _, _ => False
theorem Ka (c0 c1 c2 c3 c4 : Int) (xs : List (Int × Unit)) (h : xs.length ≤ 1048576) :
   ∃ e f, aE eE (c0, c1, c2, c3, c4, xs, (0 : Int), ()) = some e ∧ aE kn (c0, c1, c2, c3, c4, xs, xs, ((List.length xs : Nat) : Int), (0 : Int), ()) = some f ∧ OS (c0, c1, c2, c3, c4, xs, ()) e f := by
 refine nM xs.length (fun k x y => x = (c0, c1, c2, c3, c4, xs, ((k : Nat) : Int), ()) ∧ y = (c0, c1, c2, c3, c4, xs, xs, ((List.length xs : Nat) : Int), ((k : Nat) : Int), ())) (OS (c0, c1, c2, c3, c4, xs, ())) ?_ ⟨rfl, rfl⟩
 rintro k x y hk ⟨rfl, rfl⟩
 by_cases dm : k < xs.length
 · simp only [eE, kj, kn, qE, aw dm, ar, cond_true, aC, List.getElem?_eq_getElem dm, Option.bind_some, nt, su, aF (show k < 4611686018427387904 by omega)]
   cases (decide (1 ≤ xs[k].1) && decide (xs[k].1 ≤ c2))
   · exact .inl ⟨.inr (false, ()), .inr (false, ()), rfl, rfl, rfl, rfl⟩
   · by_cases h0 : 0 < k
     · have hp : k - 1 < xs.length := by omega
       rw [rz h0 (by omega)]; simp only [ae (show (0 : Int) < ((k : Nat) : Int) by omega), Bool.not_true, cond_false, cond_true, ar, aC, List.getElem?_eq_getElem hp, Option.bind_some]
       cases decide (xs[k].1 ≤ xs[k - 1].1)
       · exact .inr ⟨dm, _, _, rfl, rfl, rfl, rfl⟩
       · exact .inl ⟨.inr (false, ()), .inr (false, ()), rfl, rfl, rfl, rfl⟩
     · have : k = 0 := by omega
       subst this; simp only [af (show ¬ (0 : Int) < ((0 : Nat) : Int) by omega), Bool.not_true, cond_false]; exact .inr ⟨dm, _, _, rfl, rfl, rfl, rfl⟩
 · have : k = xs.length := by omega
   subst this; exact .inl ⟨.inl (), .inl (c0, c1, c2, c3, c4, xs, ()), by simp only [eE, kj, aD, cond_false], by simp only [kn, qE, aD, cond_false], rfl⟩
theorem sv (c0 c1 c2 c3 c4 : Int) (xs : List (Int × Unit)) (h : xs.length ≤ 1048576) : ∃ b, dM c0 c1 c2 c3 c4 xs = some (b, ()) ∧ fU c0 c1 c2 c3 c4 xs = some (b, ()) ∧ (b = true → 0 ≤ c2 ∧ c2 ≤ 60 ∧ 0 ≤ c3 ∧ c3 ≤ c2 ∧ xs.length ≤ 20 ∧ (∀ y ∈ [c0, c1], 1 ≤ y)) := by
 obtain ⟨e, f, h1, h2, h3⟩ := Ka c0 c1 c2 c3 c4 xs h; unfold dM fU; simp only [nt, su, Option.bind_some, h1, h2]
 cases q0 : (decide (1 ≤ c0) && decide (c0 ≤ 9))
 · exact ⟨false, rfl, rfl, fun h => by cases h⟩
 cases q1 : (decide (1 ≤ c1) && decide (c1 ≤ 1000000000))
 · exact ⟨false, rfl, rfl, fun h => by cases h⟩
 cases q2 : (decide (0 ≤ c2) && decide (c2 ≤ 60))
 · exact ⟨false, rfl, rfl, fun h => by cases h⟩
 cases e with
 | inl e => cases f with
   | inl f =>
     have h3 : f = (c0, c1, c2, c3, c4, xs, ()) := h3; subst h3; simp only [dK, Option.bind_some, su, Bool.not_true, cond_false]
     cases q3 : (decide (0 ≤ c3) && decide (c3 ≤ c2))
     · exact ⟨false, rfl, rfl, fun h => by cases h⟩
     cases (decide (0 ≤ c4) && decide (c4 ≤ 5))
     · exact ⟨false, rfl, rfl, fun h => by cases h⟩
     by_cases hl : ((List.length xs : Nat) : Int) ≤ 20
     · rw [ae hl, af (show ¬ (20 : Int) < ((List.length xs : Nat) : Int) by omega)]; refine ⟨true, rfl, rfl, fun _ => ?_⟩; rw [Bool.and_eq_true, decide_eq_true_eq, decide_eq_true_eq] at q0 q1 q2 q3; refine ⟨q2.1, q2.2, q3.1, q3.2, by omega, fun y hy => ?_⟩; rcases List.mem_cons.1 hy with rfl | hy
       · exact q0.1
       · rcases List.mem_cons.1 hy with rfl | hy
         · exact q1.1
         · cases hy
     · rw [af hl, ae (show (20 : Int) < ((List.length xs : Nat) : Int) by omega)]; exact ⟨false, rfl, rfl, fun h => by cases h⟩
   | inr f => exact h3.elim
 | inr e => cases f with
   | inl f => exact h3.elim
   | inr f =>
     obtain ⟨e1, e2⟩ := (show e.1 = false ∧ f.1 = false from h3); refine ⟨false, ?_, by rw [← e2]; rfl, fun h => by cases h⟩
     cases (decide (0 ≤ c3) && decide (c3 ≤ c2))
     · rfl
     cases (decide (0 ≤ c4) && decide (c4 ≤ 5))
     · rfl
     cases decide ((20 : Int) < ((List.length xs : Nat) : Int))
     · show some (e.1, ()) = some (false, ()); rw [e1]
     · rfl
theorem nv (xs : List (Int × Unit)) (h : xs.length ≤ 1048576) : eP xs = some (xs, ()) := by
 unfold eP; rw [bm (show (0 + xs.length) * 8 ≤ lim by unfold lim; omega)]; rfl
theorem oh (c0 c1 c2 c3 c4 : Int) (xs : List (Int × Unit)) (h : xs.length ≤ 1048576) : aS c0 c1 c2 c3 c4 xs = some (c0, c1, c2, c3, c4, xs, ()) ∧ dU c0 c1 c2 c3 c4 xs = some (c0, c1, c2, c3, c4, xs, ()) := by
 constructor
 · unfold aS; rw [bm (show (0 + xs.length) * 8 ≤ lim by unfold lim; omega)]; rfl
 · unfold dU; rw [nv xs h]; rfl
def vD (c2 : Int) (xs : List (Int × Unit)) (n : Nat) : Prop := ∀ k (h : k < xs.length), k < n → 1 ≤ xs[k].1 ∧ xs[k].1 ≤ c2 ∧ ∀ h0 : 0 < k, xs[k - 1].1 < xs[k].1
def VC (c0 c1 c2 c3 c4 : Int) (xs : List (Int × Unit)) : Prop := (1 ≤ c0 ∧ c0 ≤ 9) ∧ (1 ≤ c1 ∧ c1 ≤ 1000000000) ∧ (0 ≤ c2 ∧ c2 ≤ 60) ∧ (0 ≤ c3 ∧ c3 ≤ c2) ∧ (0 ≤ c4 ∧ c4 ≤ 5) ∧ xs.length ≤ 20 ∧ vD c2 xs xs.length
theorem FI (c0 c1 c2 c3 c4 : Int) (xs : List (Int × Unit)) (h : xs.length ≤ 1048576) : ∃ b, dM c0 c1 c2 c3 c4 xs = some (b, ()) ∧ fU c0 c1 c2 c3 c4 xs = some (b, ()) ∧ (b = true ↔ VC c0 c1 c2 c3 c4 xs) := by
 obtain ⟨b, h1, h2, _⟩ := sv c0 c1 c2 c3 c4 xs h; refine ⟨b, h1, h2, ?_⟩; obtain ⟨e, he, hq⟩ := eY (round := eE) (x := (c0, c1, c2, c3, c4, xs, ((0 : Nat) : Int), ())) xs.length (fun k x => x = (c0, c1, c2, c3, c4, xs, ((k : Nat) : Int), ()) ∧ vD c2 xs k)
   (fun e => (e = .inl () ∧ vD c2 xs xs.length) ∨ (e = .inr (false, ()) ∧ ¬ vD c2 xs xs.length)) (by
     rintro x ⟨rfl, g⟩
     exact ⟨.inl (), by simp only [eE, kj, aD, cond_false], .inl ⟨rfl, g⟩⟩) (by
     rintro k x dm ⟨rfl, g⟩
     simp only [eE, kj, aw dm, ar, cond_true, aC, List.getElem?_eq_getElem dm, Option.bind_some, nt, aF (show k < 4611686018427387904 by omega)]; have more : 1 ≤ xs[k].1 → xs[k].1 ≤ c2 → (∀ h0 : 0 < k, xs[k - 1].1 < xs[k].1) → vD c2 xs (k + 1) := by
       intro w1 w2 w3 j hj AW
       by_cases e : j < k
       · exact g j hj e
       · have : j = k := by omega
         subst this; exact ⟨w1, w2, w3⟩
     cases CW : (decide (1 ≤ xs[k].1) && decide (xs[k].1 ≤ c2))
     · refine .inl ⟨.inr (false, ()), rfl, .inr ⟨rfl, fun hn => ?_⟩⟩; obtain ⟨w1, w2, _⟩ := hn k dm dm; rw [ae w1, ae w2] at CW
       cases CW
     · rw [Bool.and_eq_true, decide_eq_true_eq, decide_eq_true_eq] at CW
       by_cases h0 : 0 < k
       · have hp : k - 1 < xs.length := by omega
         rw [rz h0 (by omega)]; simp only [ae (show (0 : Int) < ((k : Nat) : Int) by omega), Bool.not_true, cond_false, cond_true, ar, aC, List.getElem?_eq_getElem hp, Option.bind_some]
         by_cases hd : xs[k].1 ≤ xs[k - 1].1
         · rw [ae hd]; refine .inl ⟨.inr (false, ()), rfl, .inr ⟨rfl, fun hn => ?_⟩⟩; have := (hn k dm dm).2.2 h0; omega
         · rw [af hd]; exact .inr ⟨_, rfl, rfl, more CW.1 CW.2 (fun _ => by omega)⟩
       · have : k = 0 := by omega
         subst this; simp only [af (show ¬ (0 : Int) < ((0 : Nat) : Int) by omega), Bool.not_true, cond_false]; exact .inr ⟨_, rfl, rfl, more CW.1 CW.2 (fun h0 => absurd h0 (Nat.lt_irrefl 0))⟩) ⟨rfl, fun j _ h => by omega⟩
 have he : aE eE (c0, c1, c2, c3, c4, xs, (0 : Int), ()) = some e := he; unfold dM at h1; simp only [nt, Option.bind_some, he] at h1; have no : ∀ {p : Prop}, (some (false, ()) : Option (Bool × Unit)) = some (b, ()) → ¬ p → (b = true ↔ p) := by
   intro p e1 hp; injection e1 with e1; injection e1 with e1; subst e1; exact ⟨(fun h => by cases h), fun h => absurd h hp⟩
 have yes : ∀ {p : Prop}, (some (true, ()) : Option (Bool × Unit)) = some (b, ()) → p → (b = true ↔ p) := by
   intro p e1 hp; injection e1 with e1; injection e1 with e1; subst e1; exact ⟨fun _ => hp, fun _ => rfl⟩
 by_cases q0 : 1 ≤ c0 ∧ c0 ≤ 9
 case neg =>
   rw [show (decide (1 ≤ c0) && decide (c0 ≤ 9)) = false by rw [Bool.and_eq_false_iff, decide_eq_false_iff_not, decide_eq_false_iff_not]; omega] at h1; exact no h1 (fun h => q0 h.1)
 rw [ae q0.1, ae q0.2] at h1
 by_cases q1 : 1 ≤ c1 ∧ c1 ≤ 1000000000
 case neg =>
   rw [show (decide (1 ≤ c1) && decide (c1 ≤ 1000000000)) = false by rw [Bool.and_eq_false_iff, decide_eq_false_iff_not, decide_eq_false_iff_not]; omega] at h1; exact no h1 (fun h => q1 h.2.1)
 rw [ae q1.1, ae q1.2] at h1
 by_cases q2 : 0 ≤ c2 ∧ c2 ≤ 60
 case neg =>
   rw [show (decide (0 ≤ c2) && decide (c2 ≤ 60)) = false by rw [Bool.and_eq_false_iff, decide_eq_false_iff_not, decide_eq_false_iff_not]; omega] at h1; exact no h1 (fun h => q2 h.2.2.1)
 rw [ae q2.1, ae q2.2] at h1
 by_cases q3 : 0 ≤ c3 ∧ c3 ≤ c2
 case neg =>
   rw [show (decide (0 ≤ c3) && decide (c3 ≤ c2)) = false by rw [Bool.and_eq_false_iff, decide_eq_false_iff_not, decide_eq_false_iff_not]; omega] at h1; exact no h1 (fun h => q3 h.2.2.2.1)
 rw [ae q3.1, ae q3.2] at h1
 by_cases q4 : 0 ≤ c4 ∧ c4 ≤ 5
 case neg =>
   rw [show (decide (0 ≤ c4) && decide (c4 ≤ 5)) = false by rw [Bool.and_eq_false_iff, decide_eq_false_iff_not, decide_eq_false_iff_not]; omega] at h1; exact no h1 (fun h => q4 h.2.2.2.2.1)
 rw [ae q4.1, ae q4.2] at h1
 by_cases q5 : (20 : Int) < ((List.length xs : Nat) : Int)
 · rw [ae q5] at h1; exact no h1 (fun h => by have := h.2.2.2.2.2.1; omega)
 rw [af q5] at h1; rcases hq with ⟨rfl, q⟩ | ⟨rfl, q⟩
 · exact yes h1 ⟨q0, q1, q2, q3, q4, by omega, q⟩
 · exact no h1 (fun h => q h.2.2.2.2.2.2)
theorem Eg (a : Int) : n7 a = some (decide (1 ≤ a) && decide (a ≤ 2), ()) := by
 unfold n7
 by_cases h1 : a = 1
 · subst h1; rfl
 by_cases h2 : a = 2
 · subst h2; rfl
 have e : (decide (1 ≤ a) && decide (a ≤ 2)) = false := by
   rw [Bool.and_eq_false_iff, decide_eq_false_iff_not, decide_eq_false_iff_not]; omega
 rw [e, af h1, af h2]; rfl
theorem MY (a b c : Int) (s : ByteArray) : ∃ x, iX a b c s = some (x, ()) ∧ lr a b c s = some (x, ()) := by
 unfold iX lr; simp only [nt, su, nu, Eg, Option.bind_some]
 cases (decide (1 ≤ a) && decide (a ≤ 60))
 · exact ⟨_, rfl, rfl⟩
 cases (decide (1 ≤ b) && decide (b ≤ 5))
 · exact ⟨_, rfl, rfl⟩
 cases (decide (1 ≤ c) && decide (c ≤ 2))
 · exact ⟨_, rfl, rfl⟩
 · exact ⟨_, rfl, rfl⟩
theorem Kb (xs : List (Int × Int × Int × ByteArray × Unit)) (h : xs.length ≤ 1048576) :
   ∃ e f, aE eD (xs, (0 : Int), ()) = some e ∧ aE km (xs, xs, ((List.length xs : Nat) : Int), (0 : Int), ()) = some f ∧ CA e f := by
 refine nM xs.length (fun k x y => x = (xs, ((k : Nat) : Int), ()) ∧ y = (xs, xs, ((List.length xs : Nat) : Int), ((k : Nat) : Int), ())) CA ?_ ⟨rfl, rfl⟩
 rintro k x y hk ⟨rfl, rfl⟩
 by_cases dm : k < xs.length
 · obtain ⟨b, r1, r2⟩ := MY xs[k].1 xs[k].2.1 xs[k].2.2.1 xs[k].2.2.2.1; simp only [eD, ki, km, qD, aw dm, ar, cond_true, aC, List.getElem?_eq_getElem dm, Option.bind_some, r1, r2, aF (show k < 4611686018427387904 by omega)]
   cases b
   · exact .inl ⟨.inr (false, ()), .inr (false, ()), rfl, rfl, rfl⟩
   · by_cases h0 : 0 < k
     · have hp : k - 1 < xs.length := by omega
       rw [rz h0 (by omega)]; simp only [ae (show (0 : Int) < ((k : Nat) : Int) by omega), Bool.not_true, cond_false, cond_true, ar, aC, List.getElem?_eq_getElem hp, Option.bind_some]
       cases decide (xs[k].1 ≤ xs[k - 1].1)
       · exact .inr ⟨dm, _, _, rfl, rfl, rfl, rfl⟩
       · exact .inl ⟨.inr (false, ()), .inr (false, ()), rfl, rfl, rfl⟩
     · have : k = 0 := by omega
       subst this; simp only [af (show ¬ (0 : Int) < ((0 : Nat) : Int) by omega), Bool.not_true, cond_false]; exact .inr ⟨dm, _, _, rfl, rfl, rfl, rfl⟩
 · have : k = xs.length := by omega
   subst this; exact .inl ⟨.inl (), .inl (), by simp only [eD, ki, aD, cond_false], by simp only [km, qD, aD, cond_false], trivial⟩
theorem yY (xs : List (Int × Int × Int × ByteArray × Unit)) (h : xs.length ≤ 1048576) : ∃ b, fR xs = some (b, ()) ∧ kc xs = some (b, ()) := by
 obtain ⟨e, f, h1, h2, h3⟩ := Kb xs h; unfold fR kc; rw [h1, h2]
 cases e with
 | inl e => cases f with
   | inl f => exact ⟨true, rfl, rfl⟩
   | inr f => exact h3.elim
 | inr e => cases f with
   | inl f => exact h3.elim
   | inr f => exact ⟨e.1, rfl, by rw [show e.1 = f.1 from h3]; rfl⟩
abbrev jB : Type := Int × Int × Int × ByteArray × Unit
abbrev aZ : Type := List jB
def dY (xs : aZ) (s : Int) : Option jB := xs.find? fun r => decide (r.1 = s)
def om : Option jB → Int × Int × Int × ByteArray × Bool × Unit
 | none => (0, 0, 0, ByteArray.empty, false, ())
 | some r => (r.1, r.2.1, r.2.2.1, r.2.2.2.1, true, ())
def K8 : Option jB → Sum (Int × Int × Int × ByteArray × Unit) (Int × Int × Int × ByteArray × Bool × Unit)
 | none => .inl (0, 0, 0, ByteArray.empty, ())
 | some r => .inr (om (some r))
theorem FJ (xs : aZ) (s : Int) {k : Nat} (hk : k < xs.length) : dY (xs.drop k) s = if xs[k].1 = s then some xs[k] else dY (xs.drop (k + 1)) s := by
 unfold dY; rw [List.drop_eq_getElem_cons hk, List.find?_cons]
 by_cases h : xs[k].1 = s
 · rw [ae h, if_pos h]
 · rw [af h, if_neg h]
theorem sR (xs : aZ) (s : Int) (h : xs.length ≤ 1048576) : ll xs s = some (om (dY xs s)) := by
 have hl := tC (round := jO) (n := xs.length) (fun k => (xs, s, (0 : Int), (0 : Int), (0 : Int), ByteArray.empty, ((k : Nat) : Int), ())) (fun k => some (K8 (dY (xs.drop k) s)))
   ⟨.inl (0, 0, 0, ByteArray.empty, ()), by simp only [jO, rR, aD, cond_false], by rw [List.drop_length]; rfl⟩ (fun k hk => by
     rw [FJ xs s hk]; simp only [jO, rR, aw hk, ar, cond_true, aC, List.getElem?_eq_getElem hk, Option.bind_some, aF (show k < 4611686018427387904 by omega)]
     by_cases h : xs[k].1 = s
     · rw [ae h, if_pos h]; exact .inl ⟨_, rfl, rfl⟩
     · rw [af h, if_neg h]; exact .inr ⟨rfl, rfl⟩) 0 (Nat.zero_le _)
 unfold ll; have hl : aE jO (xs, s, (0 : Int), (0 : Int), (0 : Int), ByteArray.empty, (0 : Int), ()) = _ := hl; rw [hl, List.drop_zero]
 cases dY xs s <;> rfl
theorem sS (xs : aZ) (s : Int) (h : xs.length ≤ 1048576) : lu xs s = some (om (dY xs s)) := by
 have hl := tC (round := jU) (n := xs.length) (fun k => (s, (0 : Int), (0 : Int), (0 : Int), ByteArray.empty, xs, ((List.length xs : Nat) : Int), ((k : Nat) : Int), ())) (fun k => some (K8 (dY (xs.drop k) s)))
   ⟨.inl (0, 0, 0, ByteArray.empty, ()), by simp only [jU, se, aD, cond_false], by rw [List.drop_length]; rfl⟩ (fun k hk => by
     rw [FJ xs s hk]; simp only [jU, se, aw hk, ar, cond_true, aC, List.getElem?_eq_getElem hk, Option.bind_some, aF (show k < 4611686018427387904 by omega)]
     by_cases h : xs[k].1 = s
     · rw [ae h, if_pos h]; exact .inl ⟨_, rfl, rfl⟩
     · rw [af h, if_neg h]; exact .inr ⟨rfl, rfl⟩) 0 (Nat.zero_le _)
 unfold lu; have hl : aE jU (s, (0 : Int), (0 : Int), (0 : Int), ByteArray.empty, xs, ((List.length xs : Nat) : Int), (0 : Int), ()) = _ := hl; rw [hl, List.drop_zero]
 cases dY xs s <;> rfl
theorem BX : (n : Nat) → (ys : List Int) → (∀ i, i < n → ((i + 1 : Nat) : Int) ∈ ys) → n ≤ ys.length
 | 0, _, _ => Nat.zero_le _
 | n + 1, ys, h => by
   have hm := h n (by omega); have := BX n (ys.erase ((n + 1 : Nat) : Int)) (fun i hi => (List.mem_erase_of_ne (by omega)).2 (h i (by omega))); rw [List.length_erase_of_mem hm] at this; have : 0 < ys.length := List.length_pos_of_mem hm; omega
theorem Eh {xs : aZ} {s : Int} {r : jB} (h : dY xs s = some r) : r ∈ xs ∧ r.1 = s := by
 unfold dY at h; exact ⟨List.mem_of_find?_eq_some h, by have := List.find?_some h; simpa using this⟩
def K9 (xs : aZ) (n : Nat) : Prop := n ≤ xs.length ∧ (∀ i, i < n → (dY xs ((i + 1 : Nat) : Int)).isSome = true) ∧ dY xs ((n + 1 : Nat) : Int) = none
theorem QZ {xs : aZ} (h : ∀ i, i < xs.length → (dY xs ((i + 1 : Nat) : Int)).isSome = true) : dY xs ((xs.length + 1 : Nat) : Int) = none := by
 cases hq : dY xs ((xs.length + 1 : Nat) : Int) with
 | none => rfl
 | some r =>
   have key := BX (xs.length + 1) (xs.map (·.1)) (fun i hi => by
     have : ∃ r, dY xs ((i + 1 : Nat) : Int) = some r := by
       by_cases V3 : i < xs.length
       · exact Option.isSome_iff_exists.1 (h i V3)
       · have : i = xs.length := by omega
         subst this; exact ⟨r, hq⟩
     obtain ⟨r', hr⟩ := this; obtain ⟨m1, m2⟩ := Eh hr; exact List.mem_map.2 ⟨r', m1, m2⟩)
   rw [List.length_map] at key; omega
theorem Au (xs : aZ) (h : xs.length ≤ 1048576) : ∃ n : Nat, gw xs = some (((n : Nat) : Int), ()) ∧ ju xs = some (((n : Nat) : Int), ()) ∧ K9 xs n := by
 obtain ⟨e, f, h1, h2, n, h3⟩ : ∃ e f, aE pt (xs, (0 : Int), (0 : Int), ()) = some e ∧ aE px (xs, (0 : Int), ()) = some f ∧ ∃ n : Nat, (e = .inl (((n : Nat) : Int), ()) ∨ e = .inr (((n : Nat) : Int), ())) ∧ f = .inr (((n : Nat) : Int), ()) ∧ K9 xs n := by
   refine nM xs.length (fun k x y => x = (xs, ((k : Nat) : Int), ((k : Nat) : Int), ()) ∧ y = (xs, ((k : Nat) : Int), ()) ∧ ∀ i, i < k → (dY xs ((i + 1 : Nat) : Int)).isSome = true) _ ?_ ⟨rfl, rfl, fun i hi => by omega⟩
   rintro k x y hk ⟨rfl, rfl, qk⟩
   simp only [pt, xR, px, xS, aF (show k < 4611686018427387904 by omega), sR xs _ h, sS xs _ h, Option.bind_some]
   by_cases dm : k < xs.length
   · rw [aw dm]
     cases hq : dY xs ((k + 1 : Nat) : Int) with
     | none => exact .inl ⟨.inr (((k : Nat) : Int), ()), .inr (((k : Nat) : Int), ()), rfl, rfl, k, .inr rfl, rfl, hk, qk, hq⟩
     | some r =>
       refine .inr ⟨dm, _, _, rfl, rfl, rfl, rfl, fun i hi => ?_⟩
       by_cases V3 : i < k
       · exact qk i V3
       · have : i = k := by omega
         subst this; rw [hq]; rfl
   · have : k = xs.length := by omega
     subst this; have hq := QZ qk; rw [aD, hq]; exact .inl ⟨.inl (((xs.length : Nat) : Int), ()), .inr (((xs.length : Nat) : Int), ()), rfl, rfl, xs.length, .inl rfl, rfl, hk, qk, hq⟩
 obtain ⟨h3, rfl, h4⟩ := h3; unfold gw ju; rw [h1, h2]; refine ⟨n, ?_, rfl, h4⟩; rcases h3 with rfl | rfl <;> rfl
abbrev EvR : Type := Int × Int × (List (Int × Unit)) × Int × Int × Int × ByteArray × (List (Int × Unit)) × Unit
theorem Ei (xs : List EvR) {k : Nat} (hk : k < xs.length) (h : xs.length + wl aA xs ≤ 1048576) : xs[k].2.2.1.length ≤ 1048576 ∧ xs[k].2.2.2.2.2.2.2.1.length ≤ 1048576 := by
 have hw := rP aA xs xs[k] (List.getElem_mem hk); have : aA xs[k] = (List.length xs[k].2.2.1 + wl dJ xs[k].2.2.1) + ByteArray.size xs[k].2.2.2.2.2.2.1 + (List.length xs[k].2.2.2.2.2.2.2.1 + wl dJ xs[k].2.2.2.2.2.2.2.1) := rfl; omega
theorem Cm (xs : List EvR) (h : xs.length + wl aA xs ≤ 1048576) : j9 xs = some (xs, ()) := by
 have hl := de (round := ek) (e := .inl (xs, ())) xs.length (fun k => (xs, xs.take k, ((k : Nat) : Int), ())) (by
   simp only [ek, kM, aD, cond_false, List.take_length]) (fun k hk => by
   obtain ⟨e1, e2⟩ := Ei xs hk h; simp only [ek, kM, aw hk, ar, cond_true, aC, List.getElem?_eq_getElem hk, Option.bind_some, List.length_take, Nat.min_eq_left (Nat.le_of_lt hk), bm (show (0 + xs[k].2.2.1.length) * 8 ≤ lim by unfold lim; omega), bm (show (0 + xs[k].2.2.2.2.2.2.2.1.length) * 8 ≤ lim by unfold lim; omega), bm (show (k + 1) * 104 ≤ lim by unfold lim; omega), aF (show k < 4611686018427387904 by omega), List.nil_append]; rw [List.take_succ_eq_append_getElem hk])
 have hl : aE ek (xs, [], (0 : Int), ()) = _ := hl; unfold j9; rw [hl]; rfl
theorem Cn (xs : List EvR) (h : xs.length + wl aA xs ≤ 1048576) : q7 xs = some (xs, ()) := by
 have hl := de (round := iI) (e := .inl (xs, ())) xs.length (fun k => (xs.take k, xs, ((xs.length : Nat) : Int), ((k : Nat) : Int), ())) (by
   simp only [iI, qC, aD, cond_false, List.take_length]) (fun k hk => by
   obtain ⟨e1, e2⟩ := Ei xs hk h; simp only [iI, qC, sb, fS, nv _ e1, nv _ e2, aw hk, ar, cond_true, aC, List.getElem?_eq_getElem hk, Option.bind_some, List.length_take, Nat.min_eq_left (Nat.le_of_lt hk), bm (show (k + 1) * 104 ≤ lim by unfold lim; omega), aF (show k < 4611686018427387904 by omega)]; rw [List.take_succ_eq_append_getElem hk])
 have hl : aE iI ([], xs, ((xs.length : Nat) : Int), (0 : Int), ()) = _ := hl; unfold q7; rw [hl]; rfl
theorem BY (a b c : Int) (xs : List (Int × Int × Int × ByteArray × Unit)) (h : xs.length ≤ 1048576) : ∃ x, jq a b c xs = some (x, ()) ∧ mE a b c xs = some (x, ()) := by
 obtain ⟨y, h1, h2⟩ := yY xs h; unfold jq mE; simp only [nt, su, nu, Option.bind_some, h1, h2]
 cases (decide (1 ≤ a) && decide (a ≤ 5))
 · exact ⟨_, rfl, rfl⟩
 cases (decide (1 ≤ b) && decide (b ≤ 9))
 · exact ⟨_, rfl, rfl⟩
 cases (decide (0 ≤ c) && decide (c ≤ IntKind.i64.wrap (b - 1)))
 · exact ⟨_, rfl, rfl⟩
 cases y
 · exact ⟨_, rfl, rfl⟩
 cases decide (0 < c)
 · exact ⟨_, rfl, rfl⟩
 · exact ⟨_, rfl, rfl⟩
abbrev GL : Type := Int × Int × Int × aZ × Unit
noncomputable def FK (b : GL) : Bool := match jq b.1 b.2.1 b.2.2.1 b.2.2.2.1 with | some x => x.1 | none => false
theorem Ej (b : GL) (h : b.2.2.2.1.length ≤ 1048576) : jq b.1 b.2.1 b.2.2.1 b.2.2.2.1 = some (FK b, ()) ∧ mE b.1 b.2.1 b.2.2.1 b.2.2.2.1 = some (FK b, ()) := by
 obtain ⟨x, h1, h2⟩ := BY b.1 b.2.1 b.2.2.1 b.2.2.2.1 h; have : FK b = x := by unfold FK; rw [h1]
 rw [this]; exact ⟨h1, h2⟩
theorem Ek (xs : List GL) {k : Nat} (hk : k < xs.length) (h : xs.length + wl aI xs ≤ 1048576) : xs[k].2.2.2.1.length ≤ 1048576 := by
 have hw := rP aI xs xs[k] (List.getElem_mem hk); have : aI xs[k] = List.length xs[k].2.2.2.1 + wl bt xs[k].2.2.2.1 := rfl; omega
theorem La (xs : List (Int × Unit)) (d : Int) (h : xs.length ≤ 1048576) : fh xs d = some (decide ((d, ()) ∈ xs), ()) := by
 have hl := tC (round := dB) (n := xs.length) (fun k => (xs, d, ((k : Nat) : Int), ())) (fun k => some (if (d, ()) ∈ xs.drop k then .inr (true, ()) else .inl ()))
   ⟨.inl (), by simp only [dB, jo, aD, cond_false], by rw [List.drop_length]; rfl⟩ (fun k hk => by
     rw [List.drop_eq_getElem_cons hk]; simp only [dB, jo, aw hk, ar, cond_true, aC, List.getElem?_eq_getElem hk, Option.bind_some, aF (show k < 4611686018427387904 by omega)]
     by_cases e : xs[k].1 = d
     · rw [ae e]; exact .inl ⟨_, rfl, by rw [if_pos (List.mem_cons.2 (.inl (by rw [← e])))]⟩
     · rw [af e]; refine .inr ⟨rfl, ?_⟩; have : ((d, ()) ∈ xs[k] :: xs.drop (k + 1)) ↔ ((d, ()) ∈ xs.drop (k + 1)) := by
         rw [List.mem_cons]; exact ⟨fun h => h.resolve_left (fun q => e (by rw [← q])), .inr⟩
       by_cases q : (d, ()) ∈ xs.drop (k + 1)
       · rw [if_pos q, if_pos (this.2 q)]
       · rw [if_neg q, if_neg (fun z => q (this.1 z))]) 0 (Nat.zero_le _)
 unfold fh; have hl : aE dB (xs, d, (0 : Int), ()) = _ := hl; rw [hl, List.drop_zero]
 by_cases q : (d, ()) ∈ xs
 · rw [if_pos q, ae q]; rfl
 · rw [if_neg q, af q]; rfl
def vN (l : List (Int × Unit)) (n : Nat) : Prop := ∀ j (h : j < l.length), j < n → (decide (1 ≤ l[j].1) && decide (l[j].1 ≤ 2)) = true
def jH (l : List (ByteArray × Unit)) (n : Nat) : Prop := ∀ j (h : j < l.length), j < n → ByteArray.size l[j].1 ≤ 60
def OT (lv : List (Int × Unit)) (tx : List (ByteArray × Unit)) : Sum (List (Int × Unit) × List (ByteArray × Unit) × Unit) (Bool × Unit) → Prop
 | .inl y => y = (lv, tx, ()) ∧ vN lv (min lv.length tx.length) ∧ jH tx (min lv.length tx.length)
 | .inr b => b.1 = false ∧ ¬ (vN lv (min lv.length tx.length) ∧ jH tx (min lv.length tx.length))
theorem yZ (lv : List (Int × Unit)) (tx : List (ByteArray × Unit)) (h1 : lv.length ≤ 1048576) (h2 : tx.length ≤ 1048576) : ∃ b, pr lv tx = some (b, ()) ∧ (b = true ↔ tx.length ≤ 20 ∧ lv.length = tx.length ∧ vN lv lv.length ∧ jH tx tx.length) := by
 obtain ⟨e, he, hq⟩ := eY (round := ib) (x := (lv, tx, ((0 : Nat) : Int), ())) (min lv.length tx.length) (fun k x => x = (lv, tx, ((k : Nat) : Int), ()) ∧ vN lv k ∧ jH tx k) (OT lv tx) (by
     rintro x ⟨rfl, g1, g2⟩
     refine ⟨.inl (lv, tx, ()), ?_, rfl, g1, g2⟩
     by_cases hb : min lv.length tx.length < tx.length
     · have e : min lv.length tx.length = lv.length := by omega
       simp only [ib, lP, aw hb, cond_true]; rw [e, aD]; rfl
     · have e : min lv.length tx.length = tx.length := by omega
       simp only [ib, lP]; rw [e, aD]; rfl) (by
     rintro k x hk ⟨rfl, g1, g2⟩
     have hl : k < lv.length := by omega
     have ht : k < tx.length := by omega
     simp only [ib, lP, aw hl, aw ht, ar, cond_true, aC, List.getElem?_eq_getElem hl, List.getElem?_eq_getElem ht, Option.bind_some, nt, aF (show k < 4611686018427387904 by omega)]
     cases hlv : (decide (1 ≤ lv[k].1) && decide (lv[k].1 ≤ 2))
     · refine .inl ⟨.inr (false, ()), rfl, rfl, fun hn => ?_⟩; have := hn.1 k hl (by omega); rw [hlv] at this
       cases this
     · by_cases hs : (60 : Int) < ((ByteArray.size tx[k].1 : Nat) : Int)
       · rw [ae hs]; refine .inl ⟨.inr (false, ()), rfl, rfl, fun hn => ?_⟩; have := hn.2 k ht (by omega); omega
       · rw [af hs]; refine .inr ⟨_, rfl, rfl, fun j hj AW => ?_, fun j hj AW => ?_⟩
         · by_cases e : j < k
           · exact g1 j hj e
           · have : j = k := by omega
             subst this; exact hlv
         · by_cases e : j < k
           · exact g2 j hj e
           · have : j = k := by omega
             subst this; omega) ⟨rfl, fun j _ h => by omega, fun j _ h => by omega⟩
 unfold pr; rw [show (0 : Int) = ((0 : Nat) : Int) from rfl, he]
 cases e with
 | inr e =>
   obtain ⟨q1, q2⟩ := hq; refine ⟨false, by rw [← q1]; rfl, ⟨(fun h => by cases h), fun ⟨w1, w2, w3, w4⟩ => ?_⟩⟩; exact absurd ⟨fun j hj hm => w3 j hj hj, fun j hj hm => w4 j hj hj⟩ q2
 | inl e =>
   obtain ⟨q1, q2, q3⟩ := hq; subst q1; simp only [ew]
   by_cases w1 : ((List.length tx : Nat) : Int) ≤ 20
   · rw [ae w1]; refine ⟨_, rfl, ?_⟩; rw [decide_eq_true_eq]
     constructor
     · intro w2; have w2 : lv.length = tx.length := by omega
       exact ⟨by omega, w2, fun j hj _ => q2 j hj (by omega), fun j hj _ => q3 j hj (by omega)⟩
     · rintro ⟨_, w2, _⟩
       rw [w2]
   · rw [af w1]; exact ⟨false, rfl, ⟨(fun h => by cases h), fun ⟨w2, _⟩ => by omega⟩⟩
theorem Kc (tx : List (ByteArray × Unit)) (h2 : tx.length ≤ 1048576) : ∃ b, pw tx = some (b, ()) ∧ (b = true ↔ jH tx tx.length) := by
 obtain ⟨e, he, hq⟩ := eY (round := jT) (x := (tx, ((List.length tx : Nat) : Int), ((0 : Nat) : Int), ())) tx.length (fun k x => x = (tx, ((List.length tx : Nat) : Int), ((k : Nat) : Int), ()) ∧ jH tx k) (fun e => (e = .inl () ∧ jH tx tx.length) ∨ (e = .inr (false, ()) ∧ ¬ jH tx tx.length)) (by
     rintro x ⟨rfl, g2⟩
     exact ⟨.inl (), by simp only [jT, oT, aD, cond_false], .inl ⟨rfl, g2⟩⟩) (by
     rintro k x hk ⟨rfl, g2⟩
     simp only [jT, oT, aw hk, ar, cond_true, aC, List.getElem?_eq_getElem hk, Option.bind_some, aF (show k < 4611686018427387904 by omega)]
     by_cases hs : (60 : Int) < ((ByteArray.size tx[k].1 : Nat) : Int)
     · rw [ae hs]; refine .inl ⟨.inr (false, ()), rfl, .inr ⟨rfl, fun hn => ?_⟩⟩; have := hn k hk hk; omega
     · rw [af hs]; refine .inr ⟨_, rfl, rfl, fun j hj AW => ?_⟩
       by_cases e : j < k
       · exact g2 j hj e
       · have : j = k := by omega
         subst this; omega) ⟨rfl, fun j _ h => by omega⟩
 unfold pw; rw [show (0 : Int) = ((0 : Nat) : Int) from rfl, he]; rcases hq with ⟨rfl, q⟩ | ⟨rfl, q⟩
 · exact ⟨true, rfl, ⟨fun _ => q, fun _ => rfl⟩⟩
 · exact ⟨false, rfl, ⟨(fun h => by cases h), fun h => absurd h q⟩⟩
theorem vE (c0 c1 c2 c3 c4 : Int) (xs : List (Int × Unit)) : ∃ b, eV c0 c1 c2 c3 c4 xs = some (b, ()) ∧ cQ c0 c1 c2 c3 c4 xs = some (b, ()) := by
 unfold eV nY cQ
 cases decide (c0 = 0)
 · exact ⟨_, rfl, rfl⟩
 cases decide (c1 = 0)
 · exact ⟨_, rfl, rfl⟩
 cases decide (c2 = 0)
 · exact ⟨_, rfl, rfl⟩
 cases decide (c3 = 0)
 · exact ⟨_, rfl, rfl⟩
 cases decide (c4 = 0)
 · exact ⟨_, rfl, rfl⟩
 cases xs with
 | nil =>
   have hl := de (round := gK) (e := .inl ()) 0 (fun k => (([] : List (Int × Unit)), ([] : List (Int × Unit)), ((k : Nat) : Int), ())) (by
     simp only [gK, qJ, List.length_nil, aD, cond_false]) (fun k hk => by omega)
   have hl : aE gK (([] : List (Int × Unit)), ([] : List (Int × Unit)), (0 : Int), ()) = _ := hl; refine ⟨true, ?_, rfl⟩; simp only [cond_true, lO, List.length_nil, decide_true, Bool.not_true, cond_false, hl, ew, Option.bind_some]
 | cons x xs =>
   have e : decide (((List.length (x :: xs) : Nat) : Int) = (0 : Int)) = false := af (by rw [List.length_cons]; omega); have e2 : decide (((List.length (x :: xs) : Nat) : Int) = ((List.length ([] : List (Int × Unit)) : Nat) : Int)) = false := e; refine ⟨false, ?_, ?_⟩
   · simp only [cond_true, lO, e2, Bool.not_false, Option.bind_some]
   · simp only [cond_true, e]
abbrev RL : Type := Int × Int × (List (Int × Unit)) × aZ × (List (Int × Unit)) × (List (ByteArray × Unit)) × Int × Int × Int × Int × Int × Int × Int × Int × Int × (List (Int × Unit)) × Unit
def VD (m : RL) (lv : List (Int × Unit)) : Sum RL (Bool × Unit) → Prop
 | .inl y => y = m ∧ vN lv lv.length
 | .inr b => b.1 = false ∧ ¬ vN lv lv.length
theorem BZ (ei : Int) (ea : Int) (dA : List (Int × Unit)) (dy : List (Int × Int × Int × ByteArray × Unit)) (dg : List (Int × Unit)) (dL : List (ByteArray × Unit)) (eJ : Int) (eZ : Int) (fa : Int) (fb : Int) (cH : Int) (cI : Int) (cJ : Int) (cK : Int) (cL : Int) (ch : List (Int × Unit))
   (h0 : (List.length dA + wl dJ dA) + (List.length dy + wl bt dy) + (List.length dg + wl dJ dg) + (List.length dL + wl vU dL) + (List.length ch + wl dJ ch) ≤ 1048576) : ∃ o0, eO ei ea dA dy dg dL eJ eZ fa fb cH cI cJ cK cL ch = some (o0, ()) ∧ hJ ei ea dA dy dg dL eJ eZ fa fb cH cI cJ cK cL ch = some (o0, ()) := by
 obtain ⟨b1, r1, r2, _⟩ := xn ea dA (by omega); obtain ⟨b2, c1, c2⟩ := pC ei dA (by omega); obtain ⟨b3, i1, i2⟩ := yY dy (by omega); obtain ⟨b4, t1, t2⟩ := yZ dg dL (by omega) (by omega); obtain ⟨b5, s1, s2⟩ := Kc dL (by omega); obtain ⟨n, a1, a2, _⟩ := Au dy (by omega); obtain ⟨b6, z1, z2⟩ := vE cH cI cJ cK cL ch; obtain ⟨b7, k1, k2, _⟩ := sv cH cI cJ cK cL ch (by omega); obtain ⟨e, he, hq⟩ := eY (round := jV) (x := (ei, ea, dA, dy, dg, dL, eJ, eZ, fa, fb, cH, cI, cJ, cK, cL, ch, dg, ((List.length dg : Nat) : Int), ((0 : Nat) : Int), ())) dg.length
   (fun k x => x = (ei, ea, dA, dy, dg, dL, eJ, eZ, fa, fb, cH, cI, cJ, cK, cL, ch, dg, ((List.length dg : Nat) : Int), ((k : Nat) : Int), ()) ∧ vN dg k)
   (VD (ei, ea, dA, dy, dg, dL, eJ, eZ, fa, fb, cH, cI, cJ, cK, cL, ch, ()) dg) (by
     rintro x ⟨rfl, g⟩
     exact ⟨.inl _, by simp only [jV, sf, aD, cond_false], rfl, g⟩) (by
     rintro k x hk ⟨rfl, g⟩
     simp only [jV, sf, aw hk, ar, cond_true, aC, List.getElem?_eq_getElem hk, Option.bind_some, Eg, aF (show k < 4611686018427387904 by omega)]
     cases hlv : (decide (1 ≤ dg[k].1) && decide (dg[k].1 ≤ 2))
     · refine .inl ⟨.inr (false, ()), rfl, rfl, fun hn => ?_⟩; have := hn k hk hk; rw [hlv] at this
       cases this
     · refine .inr ⟨_, rfl, rfl, fun j hj AW => ?_⟩
       by_cases e : j < k
       · exact g j hj e
       · have : j = k := by omega
         subst this; exact hlv) ⟨rfl, fun j _ h => by omega⟩
 have he : aE jV (ei, ea, dA, dy, dg, dL, eJ, eZ, fa, fb, cH, cI, cJ, cK, cL, ch, dg, ((List.length dg : Nat) : Int), (0 : Int), ()) = some e := he; unfold eO hJ; simp only [r1, r2, c1, c2, i1, i2, t1, s1, Option.bind_some, he]
 cases b1
 · cases b2
   · exact ⟨_, rfl, rfl⟩
   · exact ⟨_, rfl, rfl⟩
 cases b2
 · exact ⟨_, rfl, rfl⟩
 cases b3
 · exact ⟨_, rfl, rfl⟩
 simp only [Bool.not_true, cond_false]
 by_cases w1 : (20 : Int) < ((List.length dL : Nat) : Int)
 · have : b4 = false := by
     cases b4
     · rfl
     · have := (t2.1 rfl).1; omega
   subst this; rw [ae w1]; exact ⟨_, rfl, rfl⟩
 rw [af w1]
 cases b5
 · have : b4 = false := by
     cases b4
     · rfl
     · have := s2.2 (t2.1 rfl).2.2.2; cases this
   subst this; exact ⟨_, rfl, rfl⟩
 by_cases w2 : ((List.length dg : Nat) : Int) = ((List.length dL : Nat) : Int)
 case neg =>
   have : b4 = false := by
     cases b4
     · rfl
     · have := (t2.1 rfl).2.1; omega
   subst this; rw [af w2]; exact ⟨_, rfl, rfl⟩
 rw [ae w2]
 cases e with
 | inr e =>
   obtain ⟨q1, q2⟩ := hq; have : b4 = false := by
     cases b4
     · rfl
     · exact absurd (t2.1 rfl).2.2.1 q2
   subst this; refine ⟨false, rfl, ?_⟩; show some (e.1, ()) = _; rw [q1]
 | inl e =>
   obtain ⟨q1, q2⟩ := hq; subst q1; have : b4 = true := t2.2 ⟨by omega, by omega, q2, s2.1 rfl⟩; subst this; simp only [Bool.not_true, cond_false, ew, a1, a2, z1, z2, k1, k2, nt, su, Option.bind_some]
   cases (decide (0 ≤ eJ) && decide (eJ ≤ 1000000000))
   · exact ⟨_, rfl, rfl⟩
   cases (decide (0 ≤ eZ) && decide (eZ ≤ 60))
   · exact ⟨_, rfl, rfl⟩
   cases (decide (0 ≤ fa) && decide (fa ≤ ((n : Nat) : Int)))
   · exact ⟨_, rfl, rfl⟩
   cases (decide (0 ≤ fb) && decide (fb ≤ ((n : Nat) : Int)))
   · exact ⟨_, rfl, rfl⟩
   cases b6
   · exact ⟨_, rfl, rfl⟩
   · exact ⟨_, rfl, rfl⟩
def sw (r : jB) : Prop := (1 ≤ r.1 ∧ r.1 ≤ 60) ∧ (1 ≤ r.2.1 ∧ r.2.1 ≤ 5) ∧ (1 ≤ r.2.2.1 ∧ r.2.2.1 ≤ 2) ∧ ByteArray.size r.2.2.2.1 ≤ 60
def gV (xs : aZ) (n : Nat) : Prop := ∀ k (h : k < xs.length), k < n → sw xs[k] ∧ ∀ h0 : 0 < k, xs[k - 1].1 < xs[k].1
theorem IC (a b c : Int) (s : ByteArray) : ∃ x, iX a b c s = some (x, ()) ∧ lr a b c s = some (x, ()) ∧ (x = true ↔ sw (a, b, c, s, ())) := by
 have hi : ∀ {p q r : Prop} [Decidable p] [Decidable q], (decide p && decide q) = false → ¬ ((p ∧ q) ∧ r) := by
   intro p q r _ _ h ⟨h1, _⟩; rw [decide_eq_true h1.1, decide_eq_true h1.2] at h
   cases h
 unfold iX lr sw; simp only [nt, su, nu, Eg, Option.bind_some]
 cases h1 : (decide (1 ≤ a) && decide (a ≤ 60))
 · exact ⟨false, rfl, rfl, ⟨fun h => (by cases h), fun h => absurd h (hi h1)⟩⟩
 rw [Bool.and_eq_true, decide_eq_true_eq, decide_eq_true_eq] at h1
 cases h2 : (decide (1 ≤ b) && decide (b ≤ 5))
 · exact ⟨false, rfl, rfl, ⟨fun h => (by cases h), fun h => absurd h.2 (hi h2)⟩⟩
 rw [Bool.and_eq_true, decide_eq_true_eq, decide_eq_true_eq] at h2
 cases h3 : (decide (1 ≤ c) && decide (c ≤ 2))
 · exact ⟨false, rfl, rfl, ⟨fun h => (by cases h), fun h => absurd h.2.2 (hi h3)⟩⟩
 rw [Bool.and_eq_true, decide_eq_true_eq, decide_eq_true_eq] at h3; refine ⟨_, rfl, rfl, ?_⟩; rw [decide_eq_true_eq]; exact ⟨fun h => ⟨h1, h2, h3, by omega⟩, fun h => by have := h.2.2.2; omega⟩
theorem FL (xs : aZ) (h : xs.length ≤ 1048576) : ∃ b, fR xs = some (b, ()) ∧ kc xs = some (b, ()) ∧ (b = true ↔ gV xs xs.length) := by
 obtain ⟨b, h1, h2⟩ := yY xs h; refine ⟨b, h1, h2, ?_⟩; obtain ⟨e, he, hq⟩ := eY (round := eD) (x := (xs, ((0 : Nat) : Int), ())) xs.length (fun k x => x = (xs, ((k : Nat) : Int), ()) ∧ gV xs k) (fun e => (e = .inl () ∧ gV xs xs.length) ∨ (e = .inr (false, ()) ∧ ¬ gV xs xs.length)) (by
     rintro x ⟨rfl, g⟩
     exact ⟨.inl (), by simp only [eD, ki, aD, cond_false], .inl ⟨rfl, g⟩⟩) (by
     rintro k x hk ⟨rfl, g⟩
     obtain ⟨b, r1, _, r3⟩ := IC xs[k].1 xs[k].2.1 xs[k].2.2.1 xs[k].2.2.2.1; have r3 : b = true ↔ sw xs[k] := r3; simp only [eD, ki, aw hk, ar, cond_true, aC, List.getElem?_eq_getElem hk, Option.bind_some, r1, aF (show k < 4611686018427387904 by omega)]; have more : sw xs[k] → (∀ h0 : 0 < k, xs[k - 1].1 < xs[k].1) → gV xs (k + 1) := fun q1 q2 j hj AW => by
       by_cases e : j < k
       · exact g j hj e
       · have : j = k := by omega
         subst this; exact ⟨q1, q2⟩
     cases b
     · exact .inl ⟨.inr (false, ()), rfl, .inr ⟨rfl, fun hn => absurd (r3.2 (hn k hk hk).1) (by simp)⟩⟩
     · have q1 := r3.1 rfl
       by_cases h0 : 0 < k
       · have hp : k - 1 < xs.length := by omega
         rw [rz h0 (by omega)]; simp only [ae (show (0 : Int) < ((k : Nat) : Int) by omega), Bool.not_true, cond_false, cond_true, ar, aC, List.getElem?_eq_getElem hp, Option.bind_some]
         by_cases hs : xs[k].1 ≤ xs[k - 1].1
         · rw [ae hs]; refine .inl ⟨.inr (false, ()), rfl, .inr ⟨rfl, fun hn => ?_⟩⟩; have := (hn k hk hk).2 h0; omega
         · rw [af hs]; exact .inr ⟨_, rfl, rfl, more q1 (fun _ => by omega)⟩
       · have : k = 0 := by omega
         subst this; simp only [af (show ¬ (0 : Int) < ((0 : Nat) : Int) by omega), Bool.not_true, cond_false]; exact .inr ⟨_, rfl, rfl, more q1 (fun h => absurd h (by omega))⟩) ⟨rfl, fun j _ h => by omega⟩
 have he : aE eD (xs, (0 : Int), ()) = some e := he; unfold fR at h1; rw [he] at h1; rcases hq with ⟨rfl, g⟩ | ⟨rfl, g⟩
 · injection h1 with h1; injection h1 with h1 _; exact ⟨fun _ => g, fun _ => h1.symm⟩
 · injection h1 with h1; injection h1 with h1 _; subst h1; exact ⟨fun h => (by cases h), fun h => absurd h g⟩
theorem ID {α : Type} (f : α → Nat) (c : Nat) : (xs : List α) → (∀ x ∈ xs, f x ≤ c) → wl f xs ≤ c * xs.length
 | [], _ => Nat.zero_le _
 | x :: xs, h => by
   rw [zS, List.length_cons, Nat.mul_succ]; have := ID f c xs (fun y hy => h y (List.mem_cons_of_mem _ hy)); have := h x List.mem_cons_self; omega
theorem FM (xs : aZ) (h : gV xs xs.length) : ∀ k (hk : k < xs.length), ((k + 1 : Nat) : Int) ≤ xs[k].1
 | 0, hk => by have := (h 0 hk hk).1.1.1; omega
 | k + 1, hk => by
   have h1 := FM xs h k (by omega); have h2 := (h (k + 1) hk hk).2 (by omega); have h2 : xs[k].1 < xs[k + 1].1 := h2; omega
theorem ja (xs : aZ) (h : gV xs xs.length) : xs.length ≤ 60 ∧ wl bt xs ≤ 3600 := by
 have h1 : xs.length ≤ 60 := by
   by_cases h0 : 0 < xs.length
   · have := FM xs h (xs.length - 1) (by omega); have := (h (xs.length - 1) (by omega) (by omega)).1.1.2; omega
   · omega
 refine ⟨h1, Nat.le_trans (ID bt 60 xs fun x hx => ?_) (by omega)⟩; obtain ⟨k, hk, rfl⟩ := List.mem_iff_getElem.1 hx; exact (h k hk hk).1.2.2.2
theorem B3 (xs : List (ByteArray × Unit)) (h : jH xs xs.length) : wl vU xs ≤ 60 * xs.length := by
 refine ID vU 60 xs fun x hx => ?_
 obtain ⟨k, hk, rfl⟩ := List.mem_iff_getElem.1 hx; exact h k hk hk
structure OU (c0 c1 : Int) (c2 : List (Int × Unit)) (c3 : aZ) (c4 : List (Int × Unit)) (c5 : List (ByteArray × Unit)) (c6 c7 c8 c9 : Int) (c15 : List (Int × Unit)) : Prop where
 ring : 1 ≤ c2.length ∧ c2.length ≤ 5
 items : gV c3 c3.length
 texts : c5.length ≤ 20 ∧ c4.length = c5.length
 lev : vN c4 c4.length
 short : jH c5 c5.length
 round : 0 ≤ c6 ∧ c6 ≤ 1000000000
 seen : 0 ≤ c7 ∧ c7 ≤ 60
 aru : ∃ n : Nat, gw c3 = some (((n : Nat) : Int), ()) ∧ ju c3 = some (((n : Nat) : Int), ()) ∧ K9 c3 n ∧ (0 ≤ c8 ∧ c8 ≤ ((n : Nat) : Int)) ∧ 0 ≤ c9 ∧ c9 ≤ ((n : Nat) : Int)
 aaz : c15.length ≤ 20
theorem MZ {c0 c1 c2 c3 c4 : Int} {xs : List (Int × Unit)} (h : cQ c0 c1 c2 c3 c4 xs = some (true, ())) : xs.length = 0 := by
 unfold cQ at h
 by_cases h0 : ((List.length xs : Nat) : Int) = 0
 · omega
 · exfalso
   rw [af h0] at h
   revert h
   cases decide (c0 = (0 : Int)) <;> cases decide (c1 = (0 : Int)) <;> cases decide (c2 = (0 : Int)) <;> cases decide (c3 = (0 : Int)) <;> cases decide (c4 = (0 : Int)) <;> intro h <;> cases h
theorem j1 {p q : Prop} [Decidable p] [Decidable q] (h : (decide p && decide q) = true) : p ∧ q := by
 rw [Bool.and_eq_true, decide_eq_true_eq, decide_eq_true_eq] at h; exact h
theorem OW (ei : Int) (ea : Int) (dA : List (Int × Unit)) (dy : aZ) (dg : List (Int × Unit)) (dL : List (ByteArray × Unit)) (eJ : Int) (eZ : Int) (fa : Int) (fb : Int) (cH : Int) (cI : Int) (cJ : Int) (cK : Int) (cL : Int) (ch : List (Int × Unit))
   (h0 : (List.length dA + wl dJ dA) + (List.length dy + wl bt dy) + (List.length dg + wl dJ dg) + (List.length dL + wl vU dL) + (List.length ch + wl dJ ch) ≤ 1048576) : ∃ b, eO ei ea dA dy dg dL eJ eZ fa fb cH cI cJ cK cL ch = some (b, ()) ∧ hJ ei ea dA dy dg dL eJ eZ fa fb cH cI cJ cK cL ch = some (b, ()) ∧
     (b = true → OU ei ea dA dy dg dL eJ eZ fa fb ch) := by
 obtain ⟨b, k1, k2⟩ := BZ ei ea dA dy dg dL eJ eZ fa fb cH cI cJ cK cL ch h0; refine ⟨b, k1, k2, fun hb => ?_⟩; subst hb; obtain ⟨b1, r1, _, r3⟩ := xn ea dA (by omega); obtain ⟨b2, c1, _⟩ := pC ei dA (by omega); obtain ⟨b3, i1, _, i3⟩ := FL dy (by omega); obtain ⟨b4, t1, t2⟩ := yZ dg dL (by omega) (by omega); obtain ⟨n, a1, a2, a3⟩ := Au dy (by omega); obtain ⟨b6, z1, z2⟩ := vE cH cI cJ cK cL ch; obtain ⟨b7, w1, _, w3⟩ := sv cH cI cJ cK cL ch (by omega); unfold eO at k1; simp only [r1, c1, i1, t1, a1, z1, w1, nt, Option.bind_some] at k1
 cases b1
 · cases k1
 cases b2
 · cases k1
 cases b3
 · cases k1
 cases b4
 · cases k1
 simp only [Bool.not_true, cond_false] at k1
 cases e5 : (decide ((0 : Int) ≤ eJ) && decide (eJ ≤ 1000000000))
 · rw [e5] at k1; cases k1
 cases e6 : (decide ((0 : Int) ≤ eZ) && decide (eZ ≤ 60))
 · rw [e5, e6] at k1; cases k1
 cases e8 : (decide ((0 : Int) ≤ fa) && decide (fa ≤ ((n : Nat) : Int)))
 · rw [e5, e6, e8] at k1; cases k1
 cases e9 : (decide ((0 : Int) ≤ fb) && decide (fb ≤ ((n : Nat) : Int)))
 · rw [e5, e6, e8, e9] at k1; cases k1
 rw [e5, e6, e8, e9] at k1; obtain ⟨t3, t4, t5, t6⟩ := t2.1 rfl; refine ⟨r3 rfl, i3.1 rfl, ⟨t3, t4⟩, t5, t6, j1 e5, j1 e6, ⟨n, a1, a2, a3, j1 e8, j1 e9⟩, ?_⟩
 cases b6
 · cases b7
   · cases k1
   · exact (w3 rfl).2.2.2.2.1
 · have := MZ z2; omega
theorem OU.small {c0 c1 : Int} {c2 : List (Int × Unit)} {c3 : aZ} {c4 : List (Int × Unit)} {c5 : List (ByteArray × Unit)} {c6 c7 c8 c9 : Int} {c15 : List (Int × Unit)} (h : OU c0 c1 c2 c3 c4 c5 c6 c7 c8 c9 c15) :
   (List.length c2 + wl dJ c2) + (List.length c3 + wl bt c3) + (List.length c4 + wl dJ c4) + (List.length c5 + wl vU c5) + (List.length c15 + wl dJ c15) ≤ 5000 := by
 have h1 := ja c3 h.items; have h2 := B3 c5 h.short; have h3 := h.texts; have h4 := h.ring; have h5 := h.aaz; rw [qQ dJ (fun _ => rfl), qQ dJ (fun _ => rfl), qQ dJ (fun _ => rfl)]; omega
theorem B4 (xs : aZ) (h : xs.length ≤ 1048576) : fi xs = some (xs, ()) := by
 unfold fi; rw [bm (show (0 + xs.length) * 40 ≤ lim by unfold lim; omega)]; rfl
theorem GM (xs : List (ByteArray × Unit)) (h : xs.length ≤ 1048576) : jF xs = some (xs, ()) := by
 unfold jF; rw [bm (show (0 + xs.length) * 16 ≤ lim by unfold lim; omega)]; rfl
theorem sU (ei : Int) (ea : Int) (dA : List (Int × Unit)) (dy : aZ) (dg : List (Int × Unit)) (dL : List (ByteArray × Unit)) (eJ : Int) (eZ : Int) (fa : Int) (fb : Int) (cH : Int) (cI : Int) (cJ : Int) (cK : Int) (cL : Int) (ch : List (Int × Unit))
   (h0 : (List.length dA + wl dJ dA) + (List.length dy + wl bt dy) + (List.length dg + wl dJ dg) + (List.length dL + wl vU dL) + (List.length ch + wl dJ ch) ≤ 1048576) :
   iW ei ea dA dy dg dL eJ eZ fa fb cH cI cJ cK cL ch = some (ei, ea, dA, dy, dg, dL, eJ, eZ, fa, fb, cH, cI, cJ, cK, cL, ch, ()) ∧
   gZ ei ea dA dy dg dL eJ eZ fa fb cH cI cJ cK cL ch = some (ei, ea, dA, dy, dg, dL, eJ, eZ, fa, fb, cH, cI, cJ, cK, cL, ch, ()) := by
 obtain ⟨t1, t2⟩ := oh cH cI cJ cK cL ch (by omega)
 constructor
 · unfold iW; rw [bm (show (0 + dA.length) * 8 ≤ lim by unfold lim; omega), bm (show (0 + dy.length) * 40 ≤ lim by unfold lim; omega), bm (show (0 + dg.length) * 8 ≤ lim by unfold lim; omega), bm (show (0 + dL.length) * 16 ≤ lim by unfold lim; omega), t1]; rfl
 · unfold gZ fS; rw [nv dA (by omega), B4 dy (by omega), nv dg (by omega), GM dL (by omega), t2]; rfl
abbrev qf : Type := List (Int × Unit)
abbrev re : Type := Int × Int × Int × Int × Int × qf × Unit
abbrev oB : Type := Int × Int × qf × aZ × qf × (List (ByteArray × Unit)) × Int × Int × Int × Int × Int × Int × Int × Int × Int × qf × Unit
abbrev Q0 : Type := Int × Int × qf × Int × Int × Int × ByteArray × qf × Unit
abbrev oC : Type := Int × Bool × Int × Int × qf × aZ × qf × (List (ByteArray × Unit)) × Int × Int × Int × Int × Int × Int × Int × Int × Int × qf × Int × Int × Int × qf × (List GL) × (List Q0) × Unit
def OX (xs : qf) (n : Nat) : Prop := ∀ k (h : k < xs.length), k < n → (1 ≤ xs[k].1 ∧ xs[k].1 ≤ 5) ∧ ∀ h0 : 0 < k, xs[k - 1].1 < xs[k].1
def FN (c : Int) (xs : qf) : Prop := (1 ≤ c ∧ c ≤ 9) ∧ (1 ≤ xs.length ∧ xs.length ≤ 5) ∧ OX xs xs.length
theorem OY (c : Int) (xs : qf) (h : xs.length ≤ 1048576) : ∃ b, gY c xs = some (b, ()) ∧ lq c xs = some (b, ()) ∧ (b = true ↔ FN c xs) := by
 obtain ⟨b, h1, h2, _⟩ := xn c xs h; refine ⟨b, h1, h2, ?_⟩; obtain ⟨e, he, hq⟩ := eY (round := ff) (x := (c, xs, ((0 : Nat) : Int), ())) xs.length (fun k x => x = (c, xs, ((k : Nat) : Int), ()) ∧ OX xs k) (fun e => (e = .inl () ∧ OX xs xs.length) ∨ (e = .inr (false, ()) ∧ ¬ OX xs xs.length)) (by
     rintro x ⟨rfl, g⟩
     exact ⟨.inl (), by simp only [ff, lk, aD, cond_false], .inl ⟨rfl, g⟩⟩) (by
     rintro k x hk ⟨rfl, g⟩
     simp only [ff, lk, aw hk, ar, cond_true, aC, List.getElem?_eq_getElem hk, Option.bind_some, nt, aF (show k < 4611686018427387904 by omega)]; have more : (1 ≤ xs[k].1 ∧ xs[k].1 ≤ 5) → (∀ h0 : 0 < k, xs[k - 1].1 < xs[k].1) → OX xs (k + 1) := fun q1 q2 j hj AW => by
       by_cases e : j < k
       · exact g j hj e
       · have : j = k := by omega
         subst this; exact ⟨q1, q2⟩
     cases hb : (decide (1 ≤ xs[k].1) && decide (xs[k].1 ≤ 5))
     · exact .inl ⟨.inr (false, ()), rfl, .inr ⟨rfl, fun hn => by
         have := (hn k hk hk).1; rw [ae this.1, ae this.2] at hb
         cases hb⟩⟩
     · have q1 := j1 hb
       by_cases h0 : 0 < k
       · have hp : k - 1 < xs.length := by omega
         rw [rz h0 (by omega)]; simp only [ae (show (0 : Int) < ((k : Nat) : Int) by omega), Bool.not_true, cond_false, cond_true, ar, aC, List.getElem?_eq_getElem hp, Option.bind_some]
         by_cases hs : xs[k].1 ≤ xs[k - 1].1
         · rw [ae hs]; refine .inl ⟨.inr (false, ()), rfl, .inr ⟨rfl, fun hn => ?_⟩⟩; have := (hn k hk hk).2 h0; omega
         · rw [af hs]; exact .inr ⟨_, rfl, rfl, more q1 (fun _ => by omega)⟩
       · have : k = 0 := by omega
         subst this; simp only [af (show ¬ (0 : Int) < ((0 : Nat) : Int) by omega), Bool.not_true, cond_false]; exact .inr ⟨_, rfl, rfl, more q1 (fun h => absurd h (by omega))⟩) ⟨rfl, fun j _ h => by omega⟩
 have he : aE ff (c, xs, (0 : Int), ()) = some e := he; unfold gY at h1; simp only [nt, Option.bind_some, he] at h1; unfold FN
 cases a1 : (decide (1 ≤ c) && decide (c ≤ 9))
 · rw [a1] at h1; injection h1 with h1; injection h1 with h1 _; subst h1; refine ⟨fun h => (by cases h), fun h => ?_⟩; rw [ae h.1.1, ae h.1.2] at a1
   cases a1
 cases a2 : (decide (1 ≤ ((List.length xs : Nat) : Int)) && decide (((List.length xs : Nat) : Int) ≤ 5))
 · rw [a1, a2] at h1; injection h1 with h1; injection h1 with h1 _; subst h1; refine ⟨fun h => (by cases h), fun h => ?_⟩; rw [ae (show (1 : Int) ≤ ((List.length xs : Nat) : Int) by omega), ae (show ((List.length xs : Nat) : Int) ≤ 5 by omega)] at a2
   cases a2
 rw [a1, a2] at h1; have a1 := j1 a1; have a2 := j1 a2; rcases hq with ⟨rfl, g⟩ | ⟨rfl, g⟩
 · injection h1 with h1; injection h1 with h1 _; exact ⟨fun _ => ⟨a1, by omega, g⟩, fun _ => h1.symm⟩
 · injection h1 with h1; injection h1 with h1 _; subst h1; exact ⟨fun h => (by cases h), fun h => absurd h.2.2 g⟩
noncomputable def B5 (c : Int) (xs : qf) : Bool := match gY c xs with | some x => x.1 | none => false
theorem Lc (c : Int) (xs : qf) (h : xs.length ≤ 1048576) : gY c xs = some (B5 c xs, ()) ∧ lq c xs = some (B5 c xs, ()) ∧ (B5 c xs = true ↔ FN c xs) := by
 obtain ⟨b, h1, h2, h3⟩ := OY c xs h; have : B5 c xs = b := by unfold B5; rw [h1]
 rw [this]; exact ⟨h1, h2, h3⟩
noncomputable def wV (xs : aZ) : Bool := match fR xs with | some x => x.1 | none => false
theorem Av (xs : aZ) (h : xs.length ≤ 1048576) : fR xs = some (wV xs, ()) ∧ kc xs = some (wV xs, ()) ∧ (wV xs = true ↔ gV xs xs.length) := by
 obtain ⟨b, h1, h2, h3⟩ := FL xs h; have : wV xs = b := by unfold wV; rw [h1]
 rw [this]; exact ⟨h1, h2, h3⟩
noncomputable def FO (r : jB) : Bool := match iX r.1 r.2.1 r.2.2.1 r.2.2.2.1 with | some x => x.1 | none => false
theorem Ld (r : jB) : iX r.1 r.2.1 r.2.2.1 r.2.2.2.1 = some (FO r, ()) ∧ lr r.1 r.2.1 r.2.2.1 r.2.2.2.1 = some (FO r, ()) ∧ (FO r = true ↔ sw r) := by
 obtain ⟨b, h1, h2, h3⟩ := IC r.1 r.2.1 r.2.2.1 r.2.2.2.1; have : FO r = b := by unfold FO; rw [h1]
 rw [this]; exact ⟨h1, h2, h3⟩
def GN (b : GL) : Prop := (1 ≤ b.1 ∧ b.1 ≤ 5) ∧ (1 ≤ b.2.1 ∧ b.2.1 ≤ 9) ∧ (0 ≤ b.2.2.1 ∧ b.2.2.1 ≤ b.2.1 - 1) ∧ gV b.2.2.2.1 b.2.2.2.1.length ∧ (0 < b.2.2.1 ∨ b.2.2.2.1.length = 0)
theorem oq {p q : Prop} [Decidable p] [Decidable q] : (decide p && decide q) = true ↔ p ∧ q := by
 rw [Bool.and_eq_true, decide_eq_true_eq, decide_eq_true_eq]
theorem Q1 (b : GL) (h : b.2.2.2.1.length ≤ 1048576) : FK b = true ↔ GN b := by
 obtain ⟨h1, _⟩ := Ej b h; obtain ⟨i1, _, i3⟩ := Av b.2.2.2.1 h; unfold jq at h1; simp only [nt, Option.bind_some, i1] at h1; unfold GN; rw [← i3]
 cases a1 : (decide (1 ≤ b.1) && decide (b.1 ≤ 5))
 · rw [a1] at h1; injection h1 with h1; injection h1 with h1 _; rw [← h1]; exact ⟨fun h => (by cases h), fun h => by rw [oq.2 h.1] at a1; cases a1⟩
 cases a2 : (decide (1 ≤ b.2.1) && decide (b.2.1 ≤ 9))
 · rw [a1, a2] at h1; injection h1 with h1; injection h1 with h1 _; rw [← h1]; exact ⟨fun h => (by cases h), fun h => by rw [oq.2 h.2.1] at a2; cases a2⟩
 have c2 := j1 a2; rw [dR (by omega) (by omega)] at h1
 cases a3 : (decide (0 ≤ b.2.2.1) && decide (b.2.2.1 ≤ b.2.1 - 1))
 · rw [a1, a2, a3] at h1; injection h1 with h1; injection h1 with h1 _; rw [← h1]; exact ⟨fun h => (by cases h), fun h => by rw [oq.2 h.2.2.1] at a3; cases a3⟩
 cases a4 : wV b.2.2.2.1
 · rw [a1, a2, a3, a4] at h1; injection h1 with h1; injection h1 with h1 _; rw [← h1]; exact ⟨fun h => (by cases h), fun h => by cases h.2.2.2.1⟩
 rw [a1, a2, a3, a4] at h1
 by_cases a5 : 0 < b.2.2.1
 · rw [ae a5] at h1; injection h1 with h1; injection h1 with h1 _; rw [← h1]; exact ⟨fun _ => ⟨j1 a1, c2, j1 a3, rfl, .inl a5⟩, fun _ => rfl⟩
 · rw [af a5] at h1; injection h1 with h1; injection h1 with h1 _; rw [← h1]; refine ⟨fun h => ⟨j1 a1, c2, j1 a3, rfl, .inr ?_⟩, fun h => ?_⟩
   · have := of_decide_eq_true h; omega
   · exact decide_eq_true (by rcases h.2.2.2.2 with q | q <;> omega)
theorem M0 (c0 c1 c2 c3 c4 : Int) (xs : qf) : ∃ b, eV c0 c1 c2 c3 c4 xs = some (b, ()) ∧ cQ c0 c1 c2 c3 c4 xs = some (b, ()) ∧ (b = true ↔ c0 = 0 ∧ c1 = 0 ∧ c2 = 0 ∧ c3 = 0 ∧ c4 = 0 ∧ xs = []) := by
 obtain ⟨b, h1, h2⟩ := vE c0 c1 c2 c3 c4 xs; refine ⟨b, h1, h2, ?_⟩; unfold cQ at h2; have hl : ((List.length xs : Nat) : Int) = 0 ↔ xs = [] := by rw [← List.length_eq_zero_iff]; omega
 by_cases e0 : c0 = 0
 case neg => simp [af e0] at h2; subst h2; simp [e0]
 by_cases e1 : c1 = 0
 case neg => simp [ae e0, af e1] at h2; subst h2; simp [e1]
 by_cases e2 : c2 = 0
 case neg => simp [ae e0, ae e1, af e2] at h2; subst h2; simp [e2]
 by_cases e3 : c3 = 0
 case neg => simp [ae e0, ae e1, ae e2, af e3] at h2; subst h2; simp [e3]
 by_cases e4 : c4 = 0
 case neg => simp [ae e0, ae e1, ae e2, ae e3, af e4] at h2; subst h2; simp [e4]
 by_cases e5 : ((List.length xs : Nat) : Int) = 0
 · rw [ae e0, ae e1, ae e2, ae e3, ae e4, ae e5] at h2; injection h2 with h2; injection h2 with h2 _; exact ⟨fun _ => ⟨e0, e1, e2, e3, e4, hl.1 e5⟩, fun _ => h2.symm⟩
 · rw [ae e0, ae e1, ae e2, ae e3, ae e4, af e5] at h2; injection h2 with h2; injection h2 with h2 _; subst h2; exact ⟨fun h => (by cases h), fun h => absurd (hl.2 h.2.2.2.2.2) e5⟩
def Blank (t : re) : Prop := t.1 = 0 ∧ t.2.1 = 0 ∧ t.2.2.1 = 0 ∧ t.2.2.2.1 = 0 ∧ t.2.2.2.2.1 = 0 ∧ t.2.2.2.2.2.1 = []
noncomputable def vF (t : re) : Bool := match eV t.1 t.2.1 t.2.2.1 t.2.2.2.1 t.2.2.2.2.1 t.2.2.2.2.2.1 with | some x => x.1 | none => false
theorem wW (t : re) : eV t.1 t.2.1 t.2.2.1 t.2.2.2.1 t.2.2.2.2.1 t.2.2.2.2.2.1 = some (vF t, ()) ∧ cQ t.1 t.2.1 t.2.2.1 t.2.2.2.1 t.2.2.2.2.1 t.2.2.2.2.2.1 = some (vF t, ()) ∧ (vF t = true ↔ Blank t) := by
 obtain ⟨b, h1, h2, h3⟩ := M0 t.1 t.2.1 t.2.2.1 t.2.2.2.1 t.2.2.2.2.1 t.2.2.2.2.2.1; have : vF t = b := by unfold vF; rw [h1]
 rw [this]; exact ⟨h1, h2, h3⟩
def IE (t : re) : Prop := VC t.1 t.2.1 t.2.2.1 t.2.2.2.1 t.2.2.2.2.1 t.2.2.2.2.2.1
noncomputable def EX (t : re) : Bool := match dM t.1 t.2.1 t.2.2.1 t.2.2.2.1 t.2.2.2.2.1 t.2.2.2.2.2.1 with | some x => x.1 | none => false
theorem Bg (t : re) (h : t.2.2.2.2.2.1.length ≤ 1048576) : dM t.1 t.2.1 t.2.2.1 t.2.2.2.1 t.2.2.2.2.1 t.2.2.2.2.2.1 = some (EX t, ()) ∧ fU t.1 t.2.1 t.2.2.1 t.2.2.2.1 t.2.2.2.2.1 t.2.2.2.2.2.1 = some (EX t, ()) ∧ (EX t = true ↔ IE t) := by
 obtain ⟨b, h1, h2, h3⟩ := FI t.1 t.2.1 t.2.2.1 t.2.2.2.1 t.2.2.2.2.1 t.2.2.2.2.2.1 h; have : EX t = b := by unfold EX; rw [h1]
 rw [this]; exact ⟨h1, h2, h3⟩
noncomputable def eU (xs : aZ) : Nat := match gw xs with | some x => x.1.toNat | none => 0
theorem Bh (xs : aZ) (h : xs.length ≤ 1048576) : gw xs = some (((eU xs : Nat) : Int), ()) ∧ ju xs = some (((eU xs : Nat) : Int), ()) ∧ K9 xs (eU xs) := by
 obtain ⟨n, h1, h2, h3⟩ := Au xs h; have : eU xs = n := by unfold eU; rw [h1]; rfl
 rw [this]; exact ⟨h1, h2, h3⟩
structure Bi (m : oB) : Prop where
 ring : FN m.2.1 m.2.2.1
 mem : (m.1, ()) ∈ m.2.2.1
 items : gV m.2.2.2.1 m.2.2.2.1.length
 texts : m.2.2.2.2.2.1.length ≤ 20 ∧ m.2.2.2.2.1.length = m.2.2.2.2.2.1.length
 lev : vN m.2.2.2.2.1 m.2.2.2.2.1.length
 short : jH m.2.2.2.2.2.1 m.2.2.2.2.2.1.length
 round : 0 ≤ m.2.2.2.2.2.2.1 ∧ m.2.2.2.2.2.2.1 ≤ 1000000000
 seen : 0 ≤ m.2.2.2.2.2.2.2.1 ∧ m.2.2.2.2.2.2.2.1 ≤ 60
 line : 0 ≤ m.2.2.2.2.2.2.2.2.1 ∧ m.2.2.2.2.2.2.2.2.1 ≤ ((eU m.2.2.2.1 : Nat) : Int)
 heard : 0 ≤ m.2.2.2.2.2.2.2.2.2.1 ∧ m.2.2.2.2.2.2.2.2.2.1 ≤ ((eU m.2.2.2.1 : Nat) : Int)
 last : Blank (m.2.2.2.2.2.2.2.2.2.2.1, m.2.2.2.2.2.2.2.2.2.2.2.1, m.2.2.2.2.2.2.2.2.2.2.2.2.1, m.2.2.2.2.2.2.2.2.2.2.2.2.2.1, m.2.2.2.2.2.2.2.2.2.2.2.2.2.2.1, m.2.2.2.2.2.2.2.2.2.2.2.2.2.2.2.1, ()) ∨ IE (m.2.2.2.2.2.2.2.2.2.2.1, m.2.2.2.2.2.2.2.2.2.2.2.1, m.2.2.2.2.2.2.2.2.2.2.2.2.1, m.2.2.2.2.2.2.2.2.2.2.2.2.2.1, m.2.2.2.2.2.2.2.2.2.2.2.2.2.2.1, m.2.2.2.2.2.2.2.2.2.2.2.2.2.2.2.1, ())
def pa (m : oB) : Nat := (List.length m.2.2.1 + wl dJ m.2.2.1) + (List.length m.2.2.2.1 + wl bt m.2.2.2.1) + (List.length m.2.2.2.2.1 + wl dJ m.2.2.2.2.1) + (List.length m.2.2.2.2.2.1 + wl vU m.2.2.2.2.2.1) + (List.length m.2.2.2.2.2.2.2.2.2.2.2.2.2.2.2.1 + wl dJ m.2.2.2.2.2.2.2.2.2.2.2.2.2.2.2.1)
noncomputable def wX (m : oB) : Bool := match eO m.1 m.2.1 m.2.2.1 m.2.2.2.1 m.2.2.2.2.1 m.2.2.2.2.2.1 m.2.2.2.2.2.2.1 m.2.2.2.2.2.2.2.1 m.2.2.2.2.2.2.2.2.1 m.2.2.2.2.2.2.2.2.2.1 m.2.2.2.2.2.2.2.2.2.2.1 m.2.2.2.2.2.2.2.2.2.2.2.1 m.2.2.2.2.2.2.2.2.2.2.2.2.1 m.2.2.2.2.2.2.2.2.2.2.2.2.2.1 m.2.2.2.2.2.2.2.2.2.2.2.2.2.2.1 m.2.2.2.2.2.2.2.2.2.2.2.2.2.2.2.1 with | some x => x.1 | none => false
theorem za (m : oB) (h0 : pa m ≤ 1048576) : eO m.1 m.2.1 m.2.2.1 m.2.2.2.1 m.2.2.2.2.1 m.2.2.2.2.2.1 m.2.2.2.2.2.2.1 m.2.2.2.2.2.2.2.1 m.2.2.2.2.2.2.2.2.1 m.2.2.2.2.2.2.2.2.2.1 m.2.2.2.2.2.2.2.2.2.2.1 m.2.2.2.2.2.2.2.2.2.2.2.1 m.2.2.2.2.2.2.2.2.2.2.2.2.1 m.2.2.2.2.2.2.2.2.2.2.2.2.2.1 m.2.2.2.2.2.2.2.2.2.2.2.2.2.2.1 m.2.2.2.2.2.2.2.2.2.2.2.2.2.2.2.1 = some (wX m, ()) ∧ hJ m.1 m.2.1 m.2.2.1 m.2.2.2.1 m.2.2.2.2.1 m.2.2.2.2.2.1 m.2.2.2.2.2.2.1 m.2.2.2.2.2.2.2.1 m.2.2.2.2.2.2.2.2.1 m.2.2.2.2.2.2.2.2.2.1 m.2.2.2.2.2.2.2.2.2.2.1 m.2.2.2.2.2.2.2.2.2.2.2.1 m.2.2.2.2.2.2.2.2.2.2.2.2.1 m.2.2.2.2.2.2.2.2.2.2.2.2.2.1 m.2.2.2.2.2.2.2.2.2.2.2.2.2.2.1 m.2.2.2.2.2.2.2.2.2.2.2.2.2.2.2.1 = some (wX m, ()) ∧ (wX m = true ↔ Bi m) := by
 obtain ⟨b, k1, k2⟩ := BZ m.1 m.2.1 m.2.2.1 m.2.2.2.1 m.2.2.2.2.1 m.2.2.2.2.2.1 m.2.2.2.2.2.2.1 m.2.2.2.2.2.2.2.1 m.2.2.2.2.2.2.2.2.1 m.2.2.2.2.2.2.2.2.2.1 m.2.2.2.2.2.2.2.2.2.2.1 m.2.2.2.2.2.2.2.2.2.2.2.1 m.2.2.2.2.2.2.2.2.2.2.2.2.1 m.2.2.2.2.2.2.2.2.2.2.2.2.2.1 m.2.2.2.2.2.2.2.2.2.2.2.2.2.2.1 m.2.2.2.2.2.2.2.2.2.2.2.2.2.2.2.1 h0; have hb : wX m = b := by unfold wX; rw [k1]
 rw [hb]; refine ⟨k1, k2, ?_⟩; unfold pa at h0; obtain ⟨r1, _, r3⟩ := Lc m.2.1 m.2.2.1 (by omega); have c1 := La m.2.2.1 m.1 (by omega); obtain ⟨i1, _, i3⟩ := Av m.2.2.2.1 (by omega); obtain ⟨b4, t1, t2⟩ := yZ m.2.2.2.2.1 m.2.2.2.2.2.1 (by omega) (by omega); obtain ⟨a1, a2, a3⟩ := Bh m.2.2.2.1 (by omega); have z1 : eV m.2.2.2.2.2.2.2.2.2.2.1 m.2.2.2.2.2.2.2.2.2.2.2.1 m.2.2.2.2.2.2.2.2.2.2.2.2.1 m.2.2.2.2.2.2.2.2.2.2.2.2.2.1 m.2.2.2.2.2.2.2.2.2.2.2.2.2.2.1 m.2.2.2.2.2.2.2.2.2.2.2.2.2.2.2.1 = some (vF (m.2.2.2.2.2.2.2.2.2.2.1, m.2.2.2.2.2.2.2.2.2.2.2.1, m.2.2.2.2.2.2.2.2.2.2.2.2.1, m.2.2.2.2.2.2.2.2.2.2.2.2.2.1, m.2.2.2.2.2.2.2.2.2.2.2.2.2.2.1, m.2.2.2.2.2.2.2.2.2.2.2.2.2.2.2.1, ()), ()) := (wW (m.2.2.2.2.2.2.2.2.2.2.1, m.2.2.2.2.2.2.2.2.2.2.2.1, m.2.2.2.2.2.2.2.2.2.2.2.2.1, m.2.2.2.2.2.2.2.2.2.2.2.2.2.1, m.2.2.2.2.2.2.2.2.2.2.2.2.2.2.1, m.2.2.2.2.2.2.2.2.2.2.2.2.2.2.2.1, ())).1; have z3 := (wW (m.2.2.2.2.2.2.2.2.2.2.1, m.2.2.2.2.2.2.2.2.2.2.2.1, m.2.2.2.2.2.2.2.2.2.2.2.2.1, m.2.2.2.2.2.2.2.2.2.2.2.2.2.1, m.2.2.2.2.2.2.2.2.2.2.2.2.2.2.1, m.2.2.2.2.2.2.2.2.2.2.2.2.2.2.2.1, ())).2.2; have w1 : dM m.2.2.2.2.2.2.2.2.2.2.1 m.2.2.2.2.2.2.2.2.2.2.2.1 m.2.2.2.2.2.2.2.2.2.2.2.2.1 m.2.2.2.2.2.2.2.2.2.2.2.2.2.1 m.2.2.2.2.2.2.2.2.2.2.2.2.2.2.1 m.2.2.2.2.2.2.2.2.2.2.2.2.2.2.2.1 = some (EX (m.2.2.2.2.2.2.2.2.2.2.1, m.2.2.2.2.2.2.2.2.2.2.2.1, m.2.2.2.2.2.2.2.2.2.2.2.2.1, m.2.2.2.2.2.2.2.2.2.2.2.2.2.1, m.2.2.2.2.2.2.2.2.2.2.2.2.2.2.1, m.2.2.2.2.2.2.2.2.2.2.2.2.2.2.2.1, ()), ()) := (Bg (m.2.2.2.2.2.2.2.2.2.2.1, m.2.2.2.2.2.2.2.2.2.2.2.1, m.2.2.2.2.2.2.2.2.2.2.2.2.1, m.2.2.2.2.2.2.2.2.2.2.2.2.2.1, m.2.2.2.2.2.2.2.2.2.2.2.2.2.2.1, m.2.2.2.2.2.2.2.2.2.2.2.2.2.2.2.1, ()) (by show m.2.2.2.2.2.2.2.2.2.2.2.2.2.2.2.1.length ≤ _; omega)).1; have w3 := (Bg (m.2.2.2.2.2.2.2.2.2.2.1, m.2.2.2.2.2.2.2.2.2.2.2.1, m.2.2.2.2.2.2.2.2.2.2.2.2.1, m.2.2.2.2.2.2.2.2.2.2.2.2.2.1, m.2.2.2.2.2.2.2.2.2.2.2.2.2.2.1, m.2.2.2.2.2.2.2.2.2.2.2.2.2.2.2.1, ()) (by show m.2.2.2.2.2.2.2.2.2.2.2.2.2.2.2.1.length ≤ _; omega)).2.2; unfold eO at k1; simp only [r1, c1, i1, t1, a1, z1, w1, nt, Option.bind_some] at k1
 cases e1 : B5 m.2.1 m.2.2.1
 · rw [e1] at k1; injection k1 with k1; injection k1 with k1 _; subst k1; exact ⟨fun h => (by cases h), fun h => by rw [r3.2 h.ring] at e1; cases e1⟩
 by_cases e2 : (m.1, ()) ∈ m.2.2.1
 case neg =>
   rw [e1, af e2] at k1; injection k1 with k1; injection k1 with k1 _; subst k1; exact ⟨fun h => (by cases h), fun h => absurd h.mem e2⟩
 cases e3 : wV m.2.2.2.1
 · rw [e1, ae e2, e3] at k1; injection k1 with k1; injection k1 with k1 _; subst k1; exact ⟨fun h => (by cases h), fun h => by rw [i3.2 h.items] at e3; cases e3⟩
 cases b4
 · rw [e1, ae e2, e3] at k1; injection k1 with k1; injection k1 with k1 _; subst k1; exact ⟨fun h => (by cases h), fun h => by have := t2.2 ⟨h.texts.1, h.texts.2, h.lev, h.short⟩; cases this⟩
 rw [e1, ae e2, e3] at k1; simp only [Bool.not_true, cond_false] at k1
 cases e5 : (decide ((0 : Int) ≤ m.2.2.2.2.2.2.1) && decide (m.2.2.2.2.2.2.1 ≤ 1000000000))
 · rw [e5] at k1; injection k1 with k1; injection k1 with k1 _; subst k1; exact ⟨fun h => (by cases h), fun h => by rw [oq.2 h.round] at e5; cases e5⟩
 cases e6 : (decide ((0 : Int) ≤ m.2.2.2.2.2.2.2.1) && decide (m.2.2.2.2.2.2.2.1 ≤ 60))
 · rw [e5, e6] at k1; injection k1 with k1; injection k1 with k1 _; subst k1; exact ⟨fun h => (by cases h), fun h => by rw [oq.2 h.seen] at e6; cases e6⟩
 cases e8 : (decide ((0 : Int) ≤ m.2.2.2.2.2.2.2.2.1) && decide (m.2.2.2.2.2.2.2.2.1 ≤ ((eU m.2.2.2.1 : Nat) : Int)))
 · rw [e5, e6, e8] at k1; injection k1 with k1; injection k1 with k1 _; subst k1; exact ⟨fun h => (by cases h), fun h => by rw [oq.2 h.line] at e8; cases e8⟩
 cases e9 : (decide ((0 : Int) ≤ m.2.2.2.2.2.2.2.2.2.1) && decide (m.2.2.2.2.2.2.2.2.2.1 ≤ ((eU m.2.2.2.1 : Nat) : Int)))
 · rw [e5, e6, e8, e9] at k1; injection k1 with k1; injection k1 with k1 _; subst k1; exact ⟨fun h => (by cases h), fun h => by rw [oq.2 h.heard] at e9; cases e9⟩
 rw [e5, e6, e8, e9] at k1; obtain ⟨t3, t4, t5, t6⟩ := t2.1 rfl; have mk : (Blank (m.2.2.2.2.2.2.2.2.2.2.1, m.2.2.2.2.2.2.2.2.2.2.2.1, m.2.2.2.2.2.2.2.2.2.2.2.2.1, m.2.2.2.2.2.2.2.2.2.2.2.2.2.1, m.2.2.2.2.2.2.2.2.2.2.2.2.2.2.1, m.2.2.2.2.2.2.2.2.2.2.2.2.2.2.2.1, ()) ∨ IE (m.2.2.2.2.2.2.2.2.2.2.1, m.2.2.2.2.2.2.2.2.2.2.2.1, m.2.2.2.2.2.2.2.2.2.2.2.2.1, m.2.2.2.2.2.2.2.2.2.2.2.2.2.1, m.2.2.2.2.2.2.2.2.2.2.2.2.2.2.1, m.2.2.2.2.2.2.2.2.2.2.2.2.2.2.2.1, ())) → Bi m := fun hl => ⟨r3.1 e1, e2, i3.1 e3, ⟨t3, t4⟩, t5, t6, j1 e5, j1 e6, j1 e8, j1 e9, hl⟩
 cases Vz : vF (m.2.2.2.2.2.2.2.2.2.2.1, m.2.2.2.2.2.2.2.2.2.2.2.1, m.2.2.2.2.2.2.2.2.2.2.2.2.1, m.2.2.2.2.2.2.2.2.2.2.2.2.2.1, m.2.2.2.2.2.2.2.2.2.2.2.2.2.2.1, m.2.2.2.2.2.2.2.2.2.2.2.2.2.2.2.1, ())
 · rw [Vz] at k1
   cases e11 : EX (m.2.2.2.2.2.2.2.2.2.2.1, m.2.2.2.2.2.2.2.2.2.2.2.1, m.2.2.2.2.2.2.2.2.2.2.2.2.1, m.2.2.2.2.2.2.2.2.2.2.2.2.2.1, m.2.2.2.2.2.2.2.2.2.2.2.2.2.2.1, m.2.2.2.2.2.2.2.2.2.2.2.2.2.2.2.1, ())
   · rw [e11] at k1; injection k1 with k1; injection k1 with k1 _; subst k1; refine ⟨fun h => (by cases h), fun h => ?_⟩; rcases h.last with q | q
     · rw [z3.2 q] at Vz; cases Vz
     · rw [w3.2 q] at e11; cases e11
   · rw [e11] at k1; injection k1 with k1; injection k1 with k1 _; subst k1; exact ⟨fun _ => mk (.inr (w3.1 e11)), fun _ => rfl⟩
 · rw [Vz] at k1; injection k1 with k1; injection k1 with k1 _; subst k1; exact ⟨fun _ => mk (.inl (z3.1 Vz)), fun _ => rfl⟩
theorem Bi.small {m : oB} (h : Bi m) : pa m ≤ 5000 := by
 have h1 := ja _ h.items; have h2 := B3 _ h.short; have h3 := h.texts; have h4 := h.ring.2.1; have h5 : m.2.2.2.2.2.2.2.2.2.2.2.2.2.2.2.1.length ≤ 20 := by
   rcases h.last with q | q
   · rw [show m.2.2.2.2.2.2.2.2.2.2.2.2.2.2.2.1 = [] from q.2.2.2.2.2]; exact Nat.zero_le _
   · exact q.2.2.2.2.2.1
 unfold pa; rw [qQ dJ (fun _ => rfl), qQ dJ (fun _ => rfl), qQ dJ (fun _ => rfl)]; omega
theorem El (b x : Bool) : (bif b then some (x, ()) else some (false, ())) = some ((b && x), ()) := by cases b <;> rfl
theorem IF (b x : Bool) : (bif !b then some (false, ()) else some (x, ())) = some ((b && x), ()) := by cases b <;> rfl
theorem tT (c : Int) (xs : List (Int × Unit)) : fc c xs = some ((decide (c = 0) && decide (((List.length xs : Nat) : Int) = 0)), ()) ∧ ic c xs = some ((decide (c = 0) && decide (((List.length xs : Nat) : Int) = 0)), ()) := by
 unfold fc ic; simp only [El]; exact ⟨trivial, trivial⟩
theorem B6 (ei : Int) (ea : Int) (dA : List (Int × Unit)) (dy : aZ) (dg : List (Int × Unit)) (dL : List (ByteArray × Unit)) (eJ eZ fa fb cH cI cJ cK cL : Int) (ch : List (Int × Unit)) : ∃ b, fe ei ea dA dy dg dL eJ eZ fa fb cH cI cJ cK cL ch = some (b, ()) ∧ fH ei ea dA dy dg dL eJ eZ fa fb cH cI cJ cK cL ch = some (b, ()) ∧ (b = true → ea = 0) := by
 obtain ⟨b6, z1, z2⟩ := vE cH cI cJ cK cL ch; obtain ⟨n1, n2⟩ := tT ea dA; unfold fe fH; simp only [z1, z2, n1, n2, Option.bind_some, El, IF]; refine ⟨_, rfl, ?_, fun h => ?_⟩
 · congr 2
   ac_rfl
 · simp only [Bool.and_eq_true, decide_eq_true_eq] at h; exact h.2.1.1
theorem EY (di : Int) (dP : Bool) (db : Int) (cP : Int) (cU : List (Int × Unit)) (cV : aZ) (cW : List (Int × Unit)) (cX : List (ByteArray × Unit)) (dq : Int) (dt : Int) (bF : Int) (bG : Int) (bH : Int) (bI : Int) (bJ : Int) (bK : Int) (bL : Int) (bu : List (Int × Unit)) (bq : Int) (bd : Int) (bn : Int) (bo : List (Int × Unit)) (bc : List (Int × Int × Int × (List (Int × Int × Int × ByteArray × Unit)) × Unit)) (bS : List (Int × Int × (List (Int × Unit)) × Int × Int × Int × ByteArray × (List (Int × Unit)) × Unit)) (h0 : (List.length cU + wl dJ cU) + (List.length cV + wl bt cV) + (List.length cW + wl dJ cW) + (List.length cX + wl vU cX) + (List.length bu + wl dJ bu) + (List.length bo + wl dJ bo) + (List.length bc + wl aI bc) + (List.length bS + wl aA bS) ≤ 1048576) : ∃ o0, jr di dP db cP cU cV cW cX dq dt bF bG bH bI bJ bK bL bu bq bd bn bo bc bS = some (o0, ()) ∧ jw di dP db cP cU cV cW cX dq dt bF bG bH bI bJ bK bL bu bq bd bn bo bc bS = some (o0, ()) := by
 have Sv : (List.length cU + wl dJ cU) + (List.length cV + wl bt cV) + (List.length cW + wl dJ cW) + (List.length cX + wl vU cX) + (List.length bu + wl dJ bu) ≤ 1048576 := by omega
 obtain ⟨nm, n1, n2, n3⟩ := B6 db cP cU cV cW cX dq dt bF bG bH bI bJ bK bL bu; obtain ⟨b, k1, k2, _⟩ := OW db cP cU cV cW cX dq dt bF bG bH bI bJ bK bL bu Sv; obtain ⟨r1, r2⟩ := tT bn bo; obtain ⟨b8, q1, q2, _⟩ := xn bn bo (by omega); obtain ⟨b9, c1, c2⟩ := pC di bo (by omega); obtain ⟨e, f, g1, g2, g3⟩ : ∃ e f, aE dC (di, dP, db, cP, cU, cV, cW, cX, dq, dt, bF, bG, bH, bI, bJ, bK, bL, bu, bq, bd, bn, bo, bc, bS, (0 : Int), ()) = some e ∧ aE eB (di, dP, db, cP, cU, cV, cW, cX, dq, dt, bF, bG, bH, bI, bJ, bK, bL, bu, bq, bd, bn, bo, bc, bS, bc, ((List.length bc : Nat) : Int), (0 : Int), ()) = some f ∧
     ((e = .inl () ∧ f = .inl (di, dP, db, cP, cU, cV, cW, cX, dq, dt, bF, bG, bH, bI, bJ, bK, bL, bu, bq, bd, bn, bo, bc, bS, ())) ∨ (e = .inr (false, ()) ∧ f = .inr (di, dP, db, cP, cU, cV, cW, cX, dq, dt, bF, bG, bH, bI, bJ, bK, bL, bu, bq, bd, bn, bo, bc, bS, false, ()))) := by
   refine nM bc.length (fun k x y => x = (di, dP, db, cP, cU, cV, cW, cX, dq, dt, bF, bG, bH, bI, bJ, bK, bL, bu, bq, bd, bn, bo, bc, bS, ((k : Nat) : Int), ()) ∧ y = (di, dP, db, cP, cU, cV, cW, cX, dq, dt, bF, bG, bH, bI, bJ, bK, bL, bu, bq, bd, bn, bo, bc, bS, bc, ((List.length bc : Nat) : Int), ((k : Nat) : Int), ())) _ ?_ ⟨rfl, rfl⟩
   rintro k x y hk ⟨rfl, rfl⟩
   by_cases dm : k < bc.length
   · have hw := rP aI bc bc[k] (List.getElem_mem dm); have hl : (bc[k].2.2.2.1).length ≤ 1048576 := by
       have : aI bc[k] = List.length bc[k].2.2.2.1 + wl bt bc[k].2.2.2.1 := rfl; omega
     obtain ⟨x, v1, v2⟩ := BY bc[k].1 bc[k].2.1 bc[k].2.2.1 bc[k].2.2.2.1 hl; simp only [dC, jP, eB, jv, aw dm, ar, cond_true, aC, List.getElem?_eq_getElem dm, Option.bind_some, v1, v2, aF (show k < 4611686018427387904 by omega)]
     cases x
     · exact .inl ⟨_, _, rfl, rfl, .inr ⟨rfl, rfl⟩⟩
     · by_cases hn : bc[k].2.1 = bn
       · rw [ae hn]; exact .inr ⟨dm, _, _, rfl, rfl, rfl, rfl⟩
       · rw [af hn]; exact .inl ⟨_, _, rfl, rfl, .inr ⟨rfl, rfl⟩⟩
   · have : k = bc.length := by omega
     subst this; exact .inl ⟨.inl (), .inl (di, dP, db, cP, cU, cV, cW, cX, dq, dt, bF, bG, bH, bI, bJ, bK, bL, bu, bq, bd, bn, bo, bc, bS, ()), by simp only [dC, jP, aD, cond_false], by simp only [eB, jv, aD, cond_false], .inl ⟨rfl, rfl⟩⟩
 unfold jr jw eo; simp only [nt, su, nu, n1, n2, k1, k2, r1, r2, q1, q2, c1, c2, g1, g2, Option.bind_some]
 cases (decide (1 ≤ di) && decide (di ≤ 5))
 · exact ⟨_, rfl, rfl⟩
 cases hB : (decide (0 ≤ bq) && decide (bq ≤ 9))
 · exact ⟨_, rfl, rfl⟩
 have hB := j1 hB; simp only [Bool.not_true, cond_false]
 cases dP
 · cases nm
   · cases b
     · by_cases o0 : db = di
       · rw [ae o0]; exact ⟨_, rfl, rfl⟩
       · rw [af o0]; exact ⟨_, rfl, rfl⟩
     by_cases o0 : db = di
     case neg => rw [af o0]; exact ⟨_, rfl, rfl⟩
     rw [ae o0]
     by_cases o1 : bd = cP
     case neg => rw [af o1]; exact ⟨_, rfl, rfl⟩
     rw [ae o1]
     by_cases o2 : bq < bd
     · rw [ae o2, af (show ¬ bd ≤ bq by omega)]; exact ⟨_, rfl, rfl⟩
     rw [af o2, ae (show bd ≤ bq by omega)]
     cases (decide (bn = 0) && decide (((List.length bo : Nat) : Int) = 0))
     · cases b8
       · exact ⟨_, rfl, rfl⟩
       cases b9
       · exact ⟨_, rfl, rfl⟩
       cases (decide (IntKind.i64.wrap (bd + (1 : Int)) ≤ bn) && decide (bn ≤ bq))
       · exact ⟨_, rfl, rfl⟩
       rcases g3 with ⟨rfl, rfl⟩ | ⟨rfl, rfl⟩
       · exact ⟨_, rfl, rfl⟩
       · exact ⟨_, rfl, rfl⟩
     · exact ⟨_, rfl, rfl⟩
   · have h3 := n3 rfl
     by_cases o1 : bd = cP
     case neg => rw [af o1]; exact ⟨_, rfl, rfl⟩
     rw [ae o1]
     by_cases o2 : bq < bd
     · rw [ae o2, af (show ¬ bd ≤ bq by omega)]; exact ⟨_, rfl, rfl⟩
     rw [af o2, ae (show bd ≤ bq by omega)]
     cases (decide (bn = 0) && decide (((List.length bo : Nat) : Int) = 0))
     · cases b8
       · exact ⟨_, rfl, rfl⟩
       cases b9
       · exact ⟨_, rfl, rfl⟩
       cases (decide (IntKind.i64.wrap (bd + (1 : Int)) ≤ bn) && decide (bn ≤ bq))
       · exact ⟨_, rfl, rfl⟩
       rcases g3 with ⟨rfl, rfl⟩ | ⟨rfl, rfl⟩
       · exact ⟨_, rfl, rfl⟩
       · exact ⟨_, rfl, rfl⟩
     · exact ⟨_, rfl, rfl⟩
 · cases nm
   · exact ⟨_, rfl, rfl⟩
   have h3 := n3 rfl
   by_cases o3 : bd = 0
   case neg => rw [af o3]; exact ⟨_, rfl, rfl⟩
   rw [ae o3, ae (show bd = cP by omega), ae (show bd ≤ bq by omega)]
   cases (decide (bn = 0) && decide (((List.length bo : Nat) : Int) = 0))
   · exact ⟨_, rfl, rfl⟩
   by_cases o4 : ((List.length bc : Nat) : Int) = 0
   · rw [ae o4, af (show ¬ (0 : Int) < ((List.length bc : Nat) : Int) by omega)]; exact ⟨_, rfl, rfl⟩
   · rw [af o4, ae (show (0 : Int) < ((List.length bc : Nat) : Int) by omega)]; exact ⟨_, rfl, rfl⟩
abbrev aU (d : oC) : oB := (d.2.2.1, d.2.2.2.1, d.2.2.2.2.1, d.2.2.2.2.2.1, d.2.2.2.2.2.2.1, d.2.2.2.2.2.2.2.1, d.2.2.2.2.2.2.2.2.1, d.2.2.2.2.2.2.2.2.2.1, d.2.2.2.2.2.2.2.2.2.2.1, d.2.2.2.2.2.2.2.2.2.2.2.1, d.2.2.2.2.2.2.2.2.2.2.2.2.1, d.2.2.2.2.2.2.2.2.2.2.2.2.2.1, d.2.2.2.2.2.2.2.2.2.2.2.2.2.2.1, d.2.2.2.2.2.2.2.2.2.2.2.2.2.2.2.1, d.2.2.2.2.2.2.2.2.2.2.2.2.2.2.2.2.1, d.2.2.2.2.2.2.2.2.2.2.2.2.2.2.2.2.2.1, ())
def FP (m : oB) : Prop := m.1 = 0 ∧ m.2.1 = 0 ∧ m.2.2.1 = [] ∧ m.2.2.2.1 = [] ∧ m.2.2.2.2.1 = [] ∧ m.2.2.2.2.2.1 = [] ∧ m.2.2.2.2.2.2.1 = 0 ∧ m.2.2.2.2.2.2.2.1 = 0 ∧ m.2.2.2.2.2.2.2.2.1 = 0 ∧ m.2.2.2.2.2.2.2.2.2.1 = 0 ∧ Blank (m.2.2.2.2.2.2.2.2.2.2.1, m.2.2.2.2.2.2.2.2.2.2.2.1, m.2.2.2.2.2.2.2.2.2.2.2.2.1, m.2.2.2.2.2.2.2.2.2.2.2.2.2.1, m.2.2.2.2.2.2.2.2.2.2.2.2.2.2.1, m.2.2.2.2.2.2.2.2.2.2.2.2.2.2.2.1, ())
noncomputable def wY (m : oB) : Bool := match fe m.1 m.2.1 m.2.2.1 m.2.2.2.1 m.2.2.2.2.1 m.2.2.2.2.2.1 m.2.2.2.2.2.2.1 m.2.2.2.2.2.2.2.1 m.2.2.2.2.2.2.2.2.1 m.2.2.2.2.2.2.2.2.2.1 m.2.2.2.2.2.2.2.2.2.2.1 m.2.2.2.2.2.2.2.2.2.2.2.1 m.2.2.2.2.2.2.2.2.2.2.2.2.1 m.2.2.2.2.2.2.2.2.2.2.2.2.2.1 m.2.2.2.2.2.2.2.2.2.2.2.2.2.2.1 m.2.2.2.2.2.2.2.2.2.2.2.2.2.2.2.1 with | some x => x.1 | none => false
theorem Q2 {α : Type} (xs : List α) : ((List.length xs : Nat) : Int) = 0 ↔ xs = [] := by rw [← List.length_eq_zero_iff]; omega
theorem IG (m : oB) : fe m.1 m.2.1 m.2.2.1 m.2.2.2.1 m.2.2.2.2.1 m.2.2.2.2.2.1 m.2.2.2.2.2.2.1 m.2.2.2.2.2.2.2.1 m.2.2.2.2.2.2.2.2.1 m.2.2.2.2.2.2.2.2.2.1 m.2.2.2.2.2.2.2.2.2.2.1 m.2.2.2.2.2.2.2.2.2.2.2.1 m.2.2.2.2.2.2.2.2.2.2.2.2.1 m.2.2.2.2.2.2.2.2.2.2.2.2.2.1 m.2.2.2.2.2.2.2.2.2.2.2.2.2.2.1 m.2.2.2.2.2.2.2.2.2.2.2.2.2.2.2.1 = some (wY m, ()) ∧ fH m.1 m.2.1 m.2.2.1 m.2.2.2.1 m.2.2.2.2.1 m.2.2.2.2.2.1 m.2.2.2.2.2.2.1 m.2.2.2.2.2.2.2.1 m.2.2.2.2.2.2.2.2.1 m.2.2.2.2.2.2.2.2.2.1 m.2.2.2.2.2.2.2.2.2.2.1 m.2.2.2.2.2.2.2.2.2.2.2.1 m.2.2.2.2.2.2.2.2.2.2.2.2.1 m.2.2.2.2.2.2.2.2.2.2.2.2.2.1 m.2.2.2.2.2.2.2.2.2.2.2.2.2.2.1 m.2.2.2.2.2.2.2.2.2.2.2.2.2.2.2.1 = some (wY m, ()) ∧ (wY m = true ↔ FP m) := by
 obtain ⟨b, k1, k2, _⟩ := B6 m.1 m.2.1 m.2.2.1 m.2.2.2.1 m.2.2.2.2.1 m.2.2.2.2.2.1 m.2.2.2.2.2.2.1 m.2.2.2.2.2.2.2.1 m.2.2.2.2.2.2.2.2.1 m.2.2.2.2.2.2.2.2.2.1 m.2.2.2.2.2.2.2.2.2.2.1 m.2.2.2.2.2.2.2.2.2.2.2.1 m.2.2.2.2.2.2.2.2.2.2.2.2.1 m.2.2.2.2.2.2.2.2.2.2.2.2.2.1 m.2.2.2.2.2.2.2.2.2.2.2.2.2.2.1 m.2.2.2.2.2.2.2.2.2.2.2.2.2.2.2.1; have hb : wY m = b := by unfold wY; rw [k1]
 rw [hb]; refine ⟨k1, k2, ?_⟩; have z1 : cQ m.2.2.2.2.2.2.2.2.2.2.1 m.2.2.2.2.2.2.2.2.2.2.2.1 m.2.2.2.2.2.2.2.2.2.2.2.2.1 m.2.2.2.2.2.2.2.2.2.2.2.2.2.1 m.2.2.2.2.2.2.2.2.2.2.2.2.2.2.1 m.2.2.2.2.2.2.2.2.2.2.2.2.2.2.2.1 = some (vF (m.2.2.2.2.2.2.2.2.2.2.1, m.2.2.2.2.2.2.2.2.2.2.2.1, m.2.2.2.2.2.2.2.2.2.2.2.2.1, m.2.2.2.2.2.2.2.2.2.2.2.2.2.1, m.2.2.2.2.2.2.2.2.2.2.2.2.2.2.1, m.2.2.2.2.2.2.2.2.2.2.2.2.2.2.2.1, ()), ()) := (wW (m.2.2.2.2.2.2.2.2.2.2.1, m.2.2.2.2.2.2.2.2.2.2.2.1, m.2.2.2.2.2.2.2.2.2.2.2.2.1, m.2.2.2.2.2.2.2.2.2.2.2.2.2.1, m.2.2.2.2.2.2.2.2.2.2.2.2.2.2.1, m.2.2.2.2.2.2.2.2.2.2.2.2.2.2.2.1, ())).2.1; have z2 : eV m.2.2.2.2.2.2.2.2.2.2.1 m.2.2.2.2.2.2.2.2.2.2.2.1 m.2.2.2.2.2.2.2.2.2.2.2.2.1 m.2.2.2.2.2.2.2.2.2.2.2.2.2.1 m.2.2.2.2.2.2.2.2.2.2.2.2.2.2.1 m.2.2.2.2.2.2.2.2.2.2.2.2.2.2.2.1 = some (vF (m.2.2.2.2.2.2.2.2.2.2.1, m.2.2.2.2.2.2.2.2.2.2.2.1, m.2.2.2.2.2.2.2.2.2.2.2.2.1, m.2.2.2.2.2.2.2.2.2.2.2.2.2.1, m.2.2.2.2.2.2.2.2.2.2.2.2.2.2.1, m.2.2.2.2.2.2.2.2.2.2.2.2.2.2.2.1, ()), ()) := (wW (m.2.2.2.2.2.2.2.2.2.2.1, m.2.2.2.2.2.2.2.2.2.2.2.1, m.2.2.2.2.2.2.2.2.2.2.2.2.1, m.2.2.2.2.2.2.2.2.2.2.2.2.2.1, m.2.2.2.2.2.2.2.2.2.2.2.2.2.2.1, m.2.2.2.2.2.2.2.2.2.2.2.2.2.2.2.1, ())).1; have z3 := (wW (m.2.2.2.2.2.2.2.2.2.2.1, m.2.2.2.2.2.2.2.2.2.2.2.1, m.2.2.2.2.2.2.2.2.2.2.2.2.1, m.2.2.2.2.2.2.2.2.2.2.2.2.2.1, m.2.2.2.2.2.2.2.2.2.2.2.2.2.2.1, m.2.2.2.2.2.2.2.2.2.2.2.2.2.2.2.1, ())).2.2; obtain ⟨n1, n2⟩ := tT m.2.1 m.2.2.1; unfold fe at k1; simp only [z2, n1, Option.bind_some, El, IF] at k1; injection k1 with k1; injection k1 with k1 _; rw [← k1]; unfold FP; simp only [Bool.and_eq_true, decide_eq_true_eq, Q2, z3]
 constructor
 · rintro ⟨a1, ⟨a2, a3⟩, a4, a5, a6, a7, a8, a9, a10, a11⟩
   exact ⟨a1, a2, a3, a4, a5, a6, a7, a8, a9, a10, a11⟩
 · rintro ⟨a1, a2, a3, a4, a5, a6, a7, a8, a9, a10, a11⟩
   exact ⟨a1, ⟨a2, a3⟩, a4, a5, a6, a7, a8, a9, a10, a11⟩
structure VE (d : oC) : Prop where
 id : 1 ≤ d.1 ∧ d.1 ≤ 5
 VF : 0 ≤ d.2.2.2.2.2.2.2.2.2.2.2.2.2.2.2.2.2.2.1 ∧ d.2.2.2.2.2.2.2.2.2.2.2.2.2.2.2.2.2.2.1 ≤ 9
 dead : d.2.1 = true → FP (aU d) ∧ d.2.2.2.2.2.2.2.2.2.2.2.2.2.2.2.2.2.2.2.1 = 0 ∧ d.2.2.2.2.2.2.2.2.2.2.2.2.2.2.2.2.2.2.2.2.1 = 0 ∧ d.2.2.2.2.2.2.2.2.2.2.2.2.2.2.2.2.2.2.2.2.2.1 = [] ∧ d.2.2.2.2.2.2.2.2.2.2.2.2.2.2.2.2.2.2.2.2.2.2.1 = []
 VG : FP (aU d) ∨ (Bi (aU d) ∧ d.2.2.1 = d.1)
 old : d.2.2.2.2.2.2.2.2.2.2.2.2.2.2.2.2.2.2.2.1 = d.2.2.2.1 ∧ d.2.2.2.2.2.2.2.2.2.2.2.2.2.2.2.2.2.2.2.1 ≤ d.2.2.2.2.2.2.2.2.2.2.2.2.2.2.2.2.2.2.1
 FQ : (d.2.2.2.2.2.2.2.2.2.2.2.2.2.2.2.2.2.2.2.2.1 = 0 ∧ d.2.2.2.2.2.2.2.2.2.2.2.2.2.2.2.2.2.2.2.2.2.1 = [] ∧ d.2.2.2.2.2.2.2.2.2.2.2.2.2.2.2.2.2.2.2.2.2.2.1 = []) ∨ (FN d.2.2.2.2.2.2.2.2.2.2.2.2.2.2.2.2.2.2.2.2.1 d.2.2.2.2.2.2.2.2.2.2.2.2.2.2.2.2.2.2.2.2.2.1 ∧ (d.1, ()) ∈ d.2.2.2.2.2.2.2.2.2.2.2.2.2.2.2.2.2.2.2.2.2.1 ∧ (d.2.2.2.2.2.2.2.2.2.2.2.2.2.2.2.2.2.2.2.1 + 1 ≤ d.2.2.2.2.2.2.2.2.2.2.2.2.2.2.2.2.2.2.2.2.1 ∧ d.2.2.2.2.2.2.2.2.2.2.2.2.2.2.2.2.2.2.2.2.1 ≤ d.2.2.2.2.2.2.2.2.2.2.2.2.2.2.2.2.2.2.1) ∧ ∀ b ∈ d.2.2.2.2.2.2.2.2.2.2.2.2.2.2.2.2.2.2.2.2.2.2.1, GN b ∧ b.2.1 = d.2.2.2.2.2.2.2.2.2.2.2.2.2.2.2.2.2.2.2.2.1)
def tU (d : oC) : Nat := (List.length d.2.2.2.2.1 + wl dJ d.2.2.2.2.1) + (List.length d.2.2.2.2.2.1 + wl bt d.2.2.2.2.2.1) + (List.length d.2.2.2.2.2.2.1 + wl dJ d.2.2.2.2.2.2.1) + (List.length d.2.2.2.2.2.2.2.1 + wl vU d.2.2.2.2.2.2.2.1) + (List.length d.2.2.2.2.2.2.2.2.2.2.2.2.2.2.2.2.2.1 + wl dJ d.2.2.2.2.2.2.2.2.2.2.2.2.2.2.2.2.2.1) + (List.length d.2.2.2.2.2.2.2.2.2.2.2.2.2.2.2.2.2.2.2.2.2.1 + wl dJ d.2.2.2.2.2.2.2.2.2.2.2.2.2.2.2.2.2.2.2.2.2.1) + (List.length d.2.2.2.2.2.2.2.2.2.2.2.2.2.2.2.2.2.2.2.2.2.2.1 + wl aI d.2.2.2.2.2.2.2.2.2.2.2.2.2.2.2.2.2.2.2.2.2.2.1) + (List.length d.2.2.2.2.2.2.2.2.2.2.2.2.2.2.2.2.2.2.2.2.2.2.2.1 + wl aA d.2.2.2.2.2.2.2.2.2.2.2.2.2.2.2.2.2.2.2.2.2.2.2.1)
noncomputable def Bj (d : oC) : Bool := match jr d.1 d.2.1 d.2.2.1 d.2.2.2.1 d.2.2.2.2.1 d.2.2.2.2.2.1 d.2.2.2.2.2.2.1 d.2.2.2.2.2.2.2.1 d.2.2.2.2.2.2.2.2.1 d.2.2.2.2.2.2.2.2.2.1 d.2.2.2.2.2.2.2.2.2.2.1 d.2.2.2.2.2.2.2.2.2.2.2.1 d.2.2.2.2.2.2.2.2.2.2.2.2.1 d.2.2.2.2.2.2.2.2.2.2.2.2.2.1 d.2.2.2.2.2.2.2.2.2.2.2.2.2.2.1 d.2.2.2.2.2.2.2.2.2.2.2.2.2.2.2.1 d.2.2.2.2.2.2.2.2.2.2.2.2.2.2.2.2.1 d.2.2.2.2.2.2.2.2.2.2.2.2.2.2.2.2.2.1 d.2.2.2.2.2.2.2.2.2.2.2.2.2.2.2.2.2.2.1 d.2.2.2.2.2.2.2.2.2.2.2.2.2.2.2.2.2.2.2.1 d.2.2.2.2.2.2.2.2.2.2.2.2.2.2.2.2.2.2.2.2.1 d.2.2.2.2.2.2.2.2.2.2.2.2.2.2.2.2.2.2.2.2.2.1 d.2.2.2.2.2.2.2.2.2.2.2.2.2.2.2.2.2.2.2.2.2.2.1 d.2.2.2.2.2.2.2.2.2.2.2.2.2.2.2.2.2.2.2.2.2.2.2.1 with | some x => x.1 | none => false
theorem OZ (d : oC) (h : tU d ≤ 1048576) : ∃ e, aE dC (d.1, d.2.1, d.2.2.1, d.2.2.2.1, d.2.2.2.2.1, d.2.2.2.2.2.1, d.2.2.2.2.2.2.1, d.2.2.2.2.2.2.2.1, d.2.2.2.2.2.2.2.2.1, d.2.2.2.2.2.2.2.2.2.1, d.2.2.2.2.2.2.2.2.2.2.1, d.2.2.2.2.2.2.2.2.2.2.2.1, d.2.2.2.2.2.2.2.2.2.2.2.2.1, d.2.2.2.2.2.2.2.2.2.2.2.2.2.1, d.2.2.2.2.2.2.2.2.2.2.2.2.2.2.1, d.2.2.2.2.2.2.2.2.2.2.2.2.2.2.2.1, d.2.2.2.2.2.2.2.2.2.2.2.2.2.2.2.2.1, d.2.2.2.2.2.2.2.2.2.2.2.2.2.2.2.2.2.1, d.2.2.2.2.2.2.2.2.2.2.2.2.2.2.2.2.2.2.1, d.2.2.2.2.2.2.2.2.2.2.2.2.2.2.2.2.2.2.2.1, d.2.2.2.2.2.2.2.2.2.2.2.2.2.2.2.2.2.2.2.2.1, d.2.2.2.2.2.2.2.2.2.2.2.2.2.2.2.2.2.2.2.2.2.1, d.2.2.2.2.2.2.2.2.2.2.2.2.2.2.2.2.2.2.2.2.2.2.1, d.2.2.2.2.2.2.2.2.2.2.2.2.2.2.2.2.2.2.2.2.2.2.2.1, (0 : Int), ()) = some e ∧ ((e = .inl () ∧ ∀ b ∈ d.2.2.2.2.2.2.2.2.2.2.2.2.2.2.2.2.2.2.2.2.2.2.1, GN b ∧ b.2.1 = d.2.2.2.2.2.2.2.2.2.2.2.2.2.2.2.2.2.2.2.2.1) ∨ (e = .inr (false, ()) ∧ ¬ ∀ b ∈ d.2.2.2.2.2.2.2.2.2.2.2.2.2.2.2.2.2.2.2.2.2.2.1, GN b ∧ b.2.1 = d.2.2.2.2.2.2.2.2.2.2.2.2.2.2.2.2.2.2.2.2.1)) := by
 unfold tU at h; obtain ⟨e, he, hq⟩ := eY (round := dC) (x := (d.1, d.2.1, d.2.2.1, d.2.2.2.1, d.2.2.2.2.1, d.2.2.2.2.2.1, d.2.2.2.2.2.2.1, d.2.2.2.2.2.2.2.1, d.2.2.2.2.2.2.2.2.1, d.2.2.2.2.2.2.2.2.2.1, d.2.2.2.2.2.2.2.2.2.2.1, d.2.2.2.2.2.2.2.2.2.2.2.1, d.2.2.2.2.2.2.2.2.2.2.2.2.1, d.2.2.2.2.2.2.2.2.2.2.2.2.2.1, d.2.2.2.2.2.2.2.2.2.2.2.2.2.2.1, d.2.2.2.2.2.2.2.2.2.2.2.2.2.2.2.1, d.2.2.2.2.2.2.2.2.2.2.2.2.2.2.2.2.1, d.2.2.2.2.2.2.2.2.2.2.2.2.2.2.2.2.2.1, d.2.2.2.2.2.2.2.2.2.2.2.2.2.2.2.2.2.2.1, d.2.2.2.2.2.2.2.2.2.2.2.2.2.2.2.2.2.2.2.1, d.2.2.2.2.2.2.2.2.2.2.2.2.2.2.2.2.2.2.2.2.1, d.2.2.2.2.2.2.2.2.2.2.2.2.2.2.2.2.2.2.2.2.2.1, d.2.2.2.2.2.2.2.2.2.2.2.2.2.2.2.2.2.2.2.2.2.2.1, d.2.2.2.2.2.2.2.2.2.2.2.2.2.2.2.2.2.2.2.2.2.2.2.1, ((0 : Nat) : Int), ())) (d.2.2.2.2.2.2.2.2.2.2.2.2.2.2.2.2.2.2.2.2.2.2.1).length (fun k x => x = (d.1, d.2.1, d.2.2.1, d.2.2.2.1, d.2.2.2.2.1, d.2.2.2.2.2.1, d.2.2.2.2.2.2.1, d.2.2.2.2.2.2.2.1, d.2.2.2.2.2.2.2.2.1, d.2.2.2.2.2.2.2.2.2.1, d.2.2.2.2.2.2.2.2.2.2.1, d.2.2.2.2.2.2.2.2.2.2.2.1, d.2.2.2.2.2.2.2.2.2.2.2.2.1, d.2.2.2.2.2.2.2.2.2.2.2.2.2.1, d.2.2.2.2.2.2.2.2.2.2.2.2.2.2.1, d.2.2.2.2.2.2.2.2.2.2.2.2.2.2.2.1, d.2.2.2.2.2.2.2.2.2.2.2.2.2.2.2.2.1, d.2.2.2.2.2.2.2.2.2.2.2.2.2.2.2.2.2.1, d.2.2.2.2.2.2.2.2.2.2.2.2.2.2.2.2.2.2.1, d.2.2.2.2.2.2.2.2.2.2.2.2.2.2.2.2.2.2.2.1, d.2.2.2.2.2.2.2.2.2.2.2.2.2.2.2.2.2.2.2.2.1, d.2.2.2.2.2.2.2.2.2.2.2.2.2.2.2.2.2.2.2.2.2.1, d.2.2.2.2.2.2.2.2.2.2.2.2.2.2.2.2.2.2.2.2.2.2.1, d.2.2.2.2.2.2.2.2.2.2.2.2.2.2.2.2.2.2.2.2.2.2.2.1, ((k : Nat) : Int), ()) ∧ ∀ j (hj : j < (d.2.2.2.2.2.2.2.2.2.2.2.2.2.2.2.2.2.2.2.2.2.2.1).length), j < k → GN (d.2.2.2.2.2.2.2.2.2.2.2.2.2.2.2.2.2.2.2.2.2.2.1)[j] ∧ (d.2.2.2.2.2.2.2.2.2.2.2.2.2.2.2.2.2.2.2.2.2.2.1)[j].2.1 = d.2.2.2.2.2.2.2.2.2.2.2.2.2.2.2.2.2.2.2.2.1)
   (fun e => (e = .inl () ∧ ∀ b ∈ d.2.2.2.2.2.2.2.2.2.2.2.2.2.2.2.2.2.2.2.2.2.2.1, GN b ∧ b.2.1 = d.2.2.2.2.2.2.2.2.2.2.2.2.2.2.2.2.2.2.2.2.1) ∨ (e = .inr (false, ()) ∧ ¬ ∀ b ∈ d.2.2.2.2.2.2.2.2.2.2.2.2.2.2.2.2.2.2.2.2.2.2.1, GN b ∧ b.2.1 = d.2.2.2.2.2.2.2.2.2.2.2.2.2.2.2.2.2.2.2.2.1)) (by
     rintro x ⟨rfl, g⟩
     refine ⟨.inl (), by simp only [dC, jP, aD, cond_false], .inl ⟨rfl, fun b hb => ?_⟩⟩; obtain ⟨k, hk, rfl⟩ := List.mem_iff_getElem.1 hb; exact g k hk hk) (by
     rintro k x hk ⟨rfl, g⟩
     have hl := Ek d.2.2.2.2.2.2.2.2.2.2.2.2.2.2.2.2.2.2.2.2.2.2.1 hk (by omega); have hb := (Ej (d.2.2.2.2.2.2.2.2.2.2.2.2.2.2.2.2.2.2.2.2.2.2.1)[k] hl).1; have hi := Q1 (d.2.2.2.2.2.2.2.2.2.2.2.2.2.2.2.2.2.2.2.2.2.2.1)[k] hl; simp only [dC, jP, aw hk, ar, cond_true, aC, List.getElem?_eq_getElem hk, Option.bind_some, hb, aF (show k < 4611686018427387904 by omega)]
     cases hv : FK (d.2.2.2.2.2.2.2.2.2.2.2.2.2.2.2.2.2.2.2.2.2.2.1)[k]
     · exact .inl ⟨.inr (false, ()), rfl, .inr ⟨rfl, fun hn => by rw [hi.2 (hn _ (List.getElem_mem hk)).1] at hv; cases hv⟩⟩
     · by_cases hn : (d.2.2.2.2.2.2.2.2.2.2.2.2.2.2.2.2.2.2.2.2.2.2.1)[k].2.1 = d.2.2.2.2.2.2.2.2.2.2.2.2.2.2.2.2.2.2.2.2.1
       · rw [ae hn]; refine .inr ⟨_, rfl, rfl, fun j hj AW => ?_⟩
         by_cases e : j < k
         · exact g j hj e
         · have : j = k := by omega
           subst this; exact ⟨hi.1 hv, hn⟩
       · rw [af hn]; exact .inl ⟨.inr (false, ()), rfl, .inr ⟨rfl, fun hq => hn (hq _ (List.getElem_mem hk)).2⟩⟩) ⟨rfl, fun j _ h => by omega⟩
 exact ⟨e, he, hq⟩
theorem some_inj {a b : Bool} (h : some (a, ()) = some (b, ())) : a = b := by
 injection h with h; injection h with h _
theorem Ke (d : oC) (h : tU d ≤ 1048576) : jr d.1 d.2.1 d.2.2.1 d.2.2.2.1 d.2.2.2.2.1 d.2.2.2.2.2.1 d.2.2.2.2.2.2.1 d.2.2.2.2.2.2.2.1 d.2.2.2.2.2.2.2.2.1 d.2.2.2.2.2.2.2.2.2.1 d.2.2.2.2.2.2.2.2.2.2.1 d.2.2.2.2.2.2.2.2.2.2.2.1 d.2.2.2.2.2.2.2.2.2.2.2.2.1 d.2.2.2.2.2.2.2.2.2.2.2.2.2.1 d.2.2.2.2.2.2.2.2.2.2.2.2.2.2.1 d.2.2.2.2.2.2.2.2.2.2.2.2.2.2.2.1 d.2.2.2.2.2.2.2.2.2.2.2.2.2.2.2.2.1 d.2.2.2.2.2.2.2.2.2.2.2.2.2.2.2.2.2.1 d.2.2.2.2.2.2.2.2.2.2.2.2.2.2.2.2.2.2.1 d.2.2.2.2.2.2.2.2.2.2.2.2.2.2.2.2.2.2.2.1 d.2.2.2.2.2.2.2.2.2.2.2.2.2.2.2.2.2.2.2.2.1 d.2.2.2.2.2.2.2.2.2.2.2.2.2.2.2.2.2.2.2.2.2.1 d.2.2.2.2.2.2.2.2.2.2.2.2.2.2.2.2.2.2.2.2.2.2.1 d.2.2.2.2.2.2.2.2.2.2.2.2.2.2.2.2.2.2.2.2.2.2.2.1 = some (Bj d, ()) ∧ jw d.1 d.2.1 d.2.2.1 d.2.2.2.1 d.2.2.2.2.1 d.2.2.2.2.2.1 d.2.2.2.2.2.2.1 d.2.2.2.2.2.2.2.1 d.2.2.2.2.2.2.2.2.1 d.2.2.2.2.2.2.2.2.2.1 d.2.2.2.2.2.2.2.2.2.2.1 d.2.2.2.2.2.2.2.2.2.2.2.1 d.2.2.2.2.2.2.2.2.2.2.2.2.1 d.2.2.2.2.2.2.2.2.2.2.2.2.2.1 d.2.2.2.2.2.2.2.2.2.2.2.2.2.2.1 d.2.2.2.2.2.2.2.2.2.2.2.2.2.2.2.1 d.2.2.2.2.2.2.2.2.2.2.2.2.2.2.2.2.1 d.2.2.2.2.2.2.2.2.2.2.2.2.2.2.2.2.2.1 d.2.2.2.2.2.2.2.2.2.2.2.2.2.2.2.2.2.2.1 d.2.2.2.2.2.2.2.2.2.2.2.2.2.2.2.2.2.2.2.1 d.2.2.2.2.2.2.2.2.2.2.2.2.2.2.2.2.2.2.2.2.1 d.2.2.2.2.2.2.2.2.2.2.2.2.2.2.2.2.2.2.2.2.2.1 d.2.2.2.2.2.2.2.2.2.2.2.2.2.2.2.2.2.2.2.2.2.2.1 d.2.2.2.2.2.2.2.2.2.2.2.2.2.2.2.2.2.2.2.2.2.2.2.1 = some (Bj d, ()) ∧ (Bj d = true ↔ VE d) := by
 obtain ⟨b, k1, k2⟩ := EY d.1 d.2.1 d.2.2.1 d.2.2.2.1 d.2.2.2.2.1 d.2.2.2.2.2.1 d.2.2.2.2.2.2.1 d.2.2.2.2.2.2.2.1 d.2.2.2.2.2.2.2.2.1 d.2.2.2.2.2.2.2.2.2.1 d.2.2.2.2.2.2.2.2.2.2.1 d.2.2.2.2.2.2.2.2.2.2.2.1 d.2.2.2.2.2.2.2.2.2.2.2.2.1 d.2.2.2.2.2.2.2.2.2.2.2.2.2.1 d.2.2.2.2.2.2.2.2.2.2.2.2.2.2.1 d.2.2.2.2.2.2.2.2.2.2.2.2.2.2.2.1 d.2.2.2.2.2.2.2.2.2.2.2.2.2.2.2.2.1 d.2.2.2.2.2.2.2.2.2.2.2.2.2.2.2.2.2.1 d.2.2.2.2.2.2.2.2.2.2.2.2.2.2.2.2.2.2.1 d.2.2.2.2.2.2.2.2.2.2.2.2.2.2.2.2.2.2.2.1 d.2.2.2.2.2.2.2.2.2.2.2.2.2.2.2.2.2.2.2.2.1 d.2.2.2.2.2.2.2.2.2.2.2.2.2.2.2.2.2.2.2.2.2.1 d.2.2.2.2.2.2.2.2.2.2.2.2.2.2.2.2.2.2.2.2.2.2.1 d.2.2.2.2.2.2.2.2.2.2.2.2.2.2.2.2.2.2.2.2.2.2.2.1 h; have hb : Bj d = b := by unfold Bj; rw [k1]
 rw [hb]; refine ⟨k1, k2, ?_⟩; have h0 := h; unfold tU at h0; have n1 : fe d.2.2.1 d.2.2.2.1 d.2.2.2.2.1 d.2.2.2.2.2.1 d.2.2.2.2.2.2.1 d.2.2.2.2.2.2.2.1 d.2.2.2.2.2.2.2.2.1 d.2.2.2.2.2.2.2.2.2.1 d.2.2.2.2.2.2.2.2.2.2.1 d.2.2.2.2.2.2.2.2.2.2.2.1 d.2.2.2.2.2.2.2.2.2.2.2.2.1 d.2.2.2.2.2.2.2.2.2.2.2.2.2.1 d.2.2.2.2.2.2.2.2.2.2.2.2.2.2.1 d.2.2.2.2.2.2.2.2.2.2.2.2.2.2.2.1 d.2.2.2.2.2.2.2.2.2.2.2.2.2.2.2.2.1 d.2.2.2.2.2.2.2.2.2.2.2.2.2.2.2.2.2.1 = some (wY (aU d), ()) := (IG (aU d)).1; have n3 := (IG (aU d)).2.2; have hw : pa (aU d) ≤ 1048576 := by
   show (List.length d.2.2.2.2.1 + wl dJ d.2.2.2.2.1) + (List.length d.2.2.2.2.2.1 + wl bt d.2.2.2.2.2.1) + (List.length d.2.2.2.2.2.2.1 + wl dJ d.2.2.2.2.2.2.1) + (List.length d.2.2.2.2.2.2.2.1 + wl vU d.2.2.2.2.2.2.2.1) + (List.length d.2.2.2.2.2.2.2.2.2.2.2.2.2.2.2.2.2.1 + wl dJ d.2.2.2.2.2.2.2.2.2.2.2.2.2.2.2.2.2.1) ≤ 1048576; omega
 have m1 : eO d.2.2.1 d.2.2.2.1 d.2.2.2.2.1 d.2.2.2.2.2.1 d.2.2.2.2.2.2.1 d.2.2.2.2.2.2.2.1 d.2.2.2.2.2.2.2.2.1 d.2.2.2.2.2.2.2.2.2.1 d.2.2.2.2.2.2.2.2.2.2.1 d.2.2.2.2.2.2.2.2.2.2.2.1 d.2.2.2.2.2.2.2.2.2.2.2.2.1 d.2.2.2.2.2.2.2.2.2.2.2.2.2.1 d.2.2.2.2.2.2.2.2.2.2.2.2.2.2.1 d.2.2.2.2.2.2.2.2.2.2.2.2.2.2.2.1 d.2.2.2.2.2.2.2.2.2.2.2.2.2.2.2.2.1 d.2.2.2.2.2.2.2.2.2.2.2.2.2.2.2.2.2.1 = some (wX (aU d), ()) := (za (aU d) hw).1; have m3 := (za (aU d) hw).2.2; obtain ⟨r1, _⟩ := tT d.2.2.2.2.2.2.2.2.2.2.2.2.2.2.2.2.2.2.2.2.1 d.2.2.2.2.2.2.2.2.2.2.2.2.2.2.2.2.2.2.2.2.2.1; obtain ⟨q1, _, q3⟩ := Lc d.2.2.2.2.2.2.2.2.2.2.2.2.2.2.2.2.2.2.2.2.1 d.2.2.2.2.2.2.2.2.2.2.2.2.2.2.2.2.2.2.2.2.2.1 (by omega); have c1 := La d.2.2.2.2.2.2.2.2.2.2.2.2.2.2.2.2.2.2.2.2.2.1 d.1 (by omega); obtain ⟨e, g1, g2⟩ := OZ d h; have hnr : (decide (d.2.2.2.2.2.2.2.2.2.2.2.2.2.2.2.2.2.2.2.2.1 = 0) && decide (((List.length d.2.2.2.2.2.2.2.2.2.2.2.2.2.2.2.2.2.2.2.2.2.1 : Nat) : Int) = 0)) = true ↔ (d.2.2.2.2.2.2.2.2.2.2.2.2.2.2.2.2.2.2.2.2.1 = 0 ∧ d.2.2.2.2.2.2.2.2.2.2.2.2.2.2.2.2.2.2.2.2.2.1 = []) := by rw [oq, Q2]
 unfold jr at k1; simp only [nt, n1, m1, r1, q1, c1, g1, Option.bind_some] at k1
 cases e1 : (decide (1 ≤ d.1) && decide (d.1 ≤ 5))
 · rw [e1] at k1; have := some_inj k1; subst this; exact ⟨fun h => (by cases h), fun h => by rw [oq.2 h.id] at e1; cases e1⟩
 have a1 := j1 e1
 cases e2 : (decide (0 ≤ d.2.2.2.2.2.2.2.2.2.2.2.2.2.2.2.2.2.2.1) && decide (d.2.2.2.2.2.2.2.2.2.2.2.2.2.2.2.2.2.2.1 ≤ 9))
 · rw [e1, e2] at k1; have := some_inj k1; subst this; exact ⟨fun h => (by cases h), fun h => by rw [oq.2 h.VF] at e2; cases e2⟩
 have a2 := j1 e2; rw [e1, e2] at k1; simp only [Bool.not_true, cond_false] at k1
 cases e3 : d.2.1
 · -- it aiL
   rw [e3] at k1; have tail : (wX (aU d) = true → d.2.2.1 = d.1 → False) ∨ True := .inr trivial; have rest : (FP (aU d) ∨ (Bi (aU d) ∧ d.2.2.1 = d.1)) → (0 ≤ d.2.2.2.1 ∧ d.2.2.2.1 ≤ 9) → (bif !decide (d.2.2.2.2.2.2.2.2.2.2.2.2.2.2.2.2.2.2.2.1 = d.2.2.2.1) then some (false, ()) else bif decide (d.2.2.2.2.2.2.2.2.2.2.2.2.2.2.2.2.2.2.1 < d.2.2.2.2.2.2.2.2.2.2.2.2.2.2.2.2.2.2.2.1) then some (false, ()) else
       bif (decide (d.2.2.2.2.2.2.2.2.2.2.2.2.2.2.2.2.2.2.2.2.1 = 0) && decide (((List.length d.2.2.2.2.2.2.2.2.2.2.2.2.2.2.2.2.2.2.2.2.2.1 : Nat) : Int) = 0)) then some (decide (((List.length d.2.2.2.2.2.2.2.2.2.2.2.2.2.2.2.2.2.2.2.2.2.2.1 : Nat) : Int) = 0), ()) else
       bif !B5 d.2.2.2.2.2.2.2.2.2.2.2.2.2.2.2.2.2.2.2.2.1 d.2.2.2.2.2.2.2.2.2.2.2.2.2.2.2.2.2.2.2.2.2.1 then some (false, ()) else bif !decide ((d.1, ()) ∈ d.2.2.2.2.2.2.2.2.2.2.2.2.2.2.2.2.2.2.2.2.2.1) then some (false, ()) else
       bif !(decide (IntKind.i64.wrap (d.2.2.2.2.2.2.2.2.2.2.2.2.2.2.2.2.2.2.2.1 + (1 : Int)) ≤ d.2.2.2.2.2.2.2.2.2.2.2.2.2.2.2.2.2.2.2.2.1) && decide (d.2.2.2.2.2.2.2.2.2.2.2.2.2.2.2.2.2.2.2.2.1 ≤ d.2.2.2.2.2.2.2.2.2.2.2.2.2.2.2.2.2.2.1)) then some (false, ()) else dK (some e) (fun _ => some (true, ())) (fun y => some (y.1, ()))) = some (b, ()) → (b = true ↔ VE d) := by
     intro hm hr k
     by_cases o1 : d.2.2.2.2.2.2.2.2.2.2.2.2.2.2.2.2.2.2.2.1 = d.2.2.2.1
     case neg =>
       rw [af o1] at k; have := some_inj k; subst this; exact ⟨fun h => (by cases h), fun h => absurd h.old.1 o1⟩
     by_cases o2 : d.2.2.2.2.2.2.2.2.2.2.2.2.2.2.2.2.2.2.1 < d.2.2.2.2.2.2.2.2.2.2.2.2.2.2.2.2.2.2.2.1
     · rw [ae o1, ae o2] at k; have := some_inj k; subst this; exact ⟨fun h => (by cases h), fun h => by have := h.old.2; omega⟩
     rw [ae o1, af o2, dR (by omega) (by omega)] at k; have mk : ((d.2.2.2.2.2.2.2.2.2.2.2.2.2.2.2.2.2.2.2.2.1 = 0 ∧ d.2.2.2.2.2.2.2.2.2.2.2.2.2.2.2.2.2.2.2.2.2.1 = [] ∧ d.2.2.2.2.2.2.2.2.2.2.2.2.2.2.2.2.2.2.2.2.2.2.1 = []) ∨ (FN d.2.2.2.2.2.2.2.2.2.2.2.2.2.2.2.2.2.2.2.2.1 d.2.2.2.2.2.2.2.2.2.2.2.2.2.2.2.2.2.2.2.2.2.1 ∧ (d.1, ()) ∈ d.2.2.2.2.2.2.2.2.2.2.2.2.2.2.2.2.2.2.2.2.2.1 ∧ (d.2.2.2.2.2.2.2.2.2.2.2.2.2.2.2.2.2.2.2.1 + 1 ≤ d.2.2.2.2.2.2.2.2.2.2.2.2.2.2.2.2.2.2.2.2.1 ∧ d.2.2.2.2.2.2.2.2.2.2.2.2.2.2.2.2.2.2.2.2.1 ≤ d.2.2.2.2.2.2.2.2.2.2.2.2.2.2.2.2.2.2.1) ∧ ∀ b ∈ d.2.2.2.2.2.2.2.2.2.2.2.2.2.2.2.2.2.2.2.2.2.2.1, GN b ∧ b.2.1 = d.2.2.2.2.2.2.2.2.2.2.2.2.2.2.2.2.2.2.2.2.1)) → VE d := fun hj =>
       ⟨a1, a2, fun hd => (by rw [e3] at hd; cases hd), hm, ⟨o1, by omega⟩, hj⟩
     cases e4 : (decide (d.2.2.2.2.2.2.2.2.2.2.2.2.2.2.2.2.2.2.2.2.1 = 0) && decide (((List.length d.2.2.2.2.2.2.2.2.2.2.2.2.2.2.2.2.2.2.2.2.2.1 : Nat) : Int) = 0))
     · have Pp : ¬ (d.2.2.2.2.2.2.2.2.2.2.2.2.2.2.2.2.2.2.2.2.1 = 0 ∧ d.2.2.2.2.2.2.2.2.2.2.2.2.2.2.2.2.2.2.2.2.2.1 = [] ∧ d.2.2.2.2.2.2.2.2.2.2.2.2.2.2.2.2.2.2.2.2.2.2.1 = []) := fun hz => by rw [hnr.2 ⟨hz.1, hz.2.1⟩] at e4; cases e4
       rw [e4] at k
       cases e5 : B5 d.2.2.2.2.2.2.2.2.2.2.2.2.2.2.2.2.2.2.2.2.1 d.2.2.2.2.2.2.2.2.2.2.2.2.2.2.2.2.2.2.2.2.2.1
       · rw [e5] at k; have := some_inj k; subst this; exact ⟨fun h => (by cases h), fun h => by
           rcases h.FQ with q | q
           · exact absurd q Pp
           · rw [q3.2 q.1] at e5; cases e5⟩
       by_cases e6 : (d.1, ()) ∈ d.2.2.2.2.2.2.2.2.2.2.2.2.2.2.2.2.2.2.2.2.2.1
       case neg =>
         rw [e5, af e6] at k; have := some_inj k; subst this; exact ⟨fun h => (by cases h), fun h => by
           rcases h.FQ with q | q
           · exact absurd q Pp
           · exact absurd q.2.1 e6⟩
       cases e7 : (decide (d.2.2.2.2.2.2.2.2.2.2.2.2.2.2.2.2.2.2.2.1 + 1 ≤ d.2.2.2.2.2.2.2.2.2.2.2.2.2.2.2.2.2.2.2.2.1) && decide (d.2.2.2.2.2.2.2.2.2.2.2.2.2.2.2.2.2.2.2.2.1 ≤ d.2.2.2.2.2.2.2.2.2.2.2.2.2.2.2.2.2.2.1))
       · rw [e5, ae e6, e7] at k; have := some_inj k; subst this; exact ⟨fun h => (by cases h), fun h => by
           rcases h.FQ with q | q
           · exact absurd q Pp
           · rw [oq.2 q.2.2.1] at e7; cases e7⟩
       rw [e5, ae e6, e7] at k; rcases g2 with ⟨rfl, g⟩ | ⟨rfl, g⟩
       · have := some_inj k; subst this; exact ⟨fun _ => mk (.inr ⟨q3.1 e5, e6, j1 e7, g⟩), fun _ => rfl⟩
       · have := some_inj k; subst this; exact ⟨fun h => (by cases h), fun h => by
           rcases h.FQ with q | q
           · exact absurd q Pp
           · exact absurd q.2.2.2 g⟩
     · have hn := hnr.1 e4; rw [e4] at k; have := some_inj k; subst this; rw [decide_eq_true_eq, Q2]; refine ⟨fun h => mk (.inl ⟨hn.1, hn.2, h⟩), fun h => ?_⟩; rcases h.FQ with q | q
       · exact q.2.2
       · have := q.1.1.1; omega
   cases e4 : wY (aU d)
   · rw [e4] at k1; simp only [Bool.not_false, cond_true] at k1; have nn : ¬ FP (aU d) := fun hz => by rw [n3.2 hz] at e4; cases e4
     cases e5 : wX (aU d)
     · rw [e5] at k1; have := some_inj k1; subst this; exact ⟨fun h => (by cases h), fun h => by
         rcases h.VG with q | q
         · exact absurd q nn
         · rw [m3.2 q.1] at e5; cases e5⟩
     by_cases e6 : d.2.2.1 = d.1
     case neg =>
       rw [e5, af e6] at k1; have := some_inj k1; subst this; exact ⟨fun h => (by cases h), fun h => by
         rcases h.VG with q | q
         · exact absurd q nn
         · exact absurd q.2 e6⟩
     rw [e5, ae e6] at k1; have hq := m3.1 e5; have h3 : 1 ≤ d.2.2.2.1 ∧ d.2.2.2.1 ≤ 9 := hq.ring.1; exact rest (.inr ⟨hq, e6⟩) ⟨by omega, h3.2⟩ k1
   · rw [e4] at k1; have hz := n3.1 e4; have h3 : d.2.2.2.1 = 0 := hz.2.1; exact rest (.inl hz) ⟨by omega, by omega⟩ k1
 · -- it is dead
   rw [e3] at k1; simp only [cond_true] at k1
   cases e4 : wY (aU d)
   · rw [e4] at k1; have := some_inj k1; subst this; exact ⟨fun h => (by cases h), fun h => by rw [n3.2 (h.dead e3).1] at e4; cases e4⟩
   have hz := n3.1 e4
   by_cases e5 : d.2.2.2.2.2.2.2.2.2.2.2.2.2.2.2.2.2.2.2.1 = 0
   case neg =>
     rw [e4, af e5] at k1; have := some_inj k1; subst this; exact ⟨fun h => (by cases h), fun h => absurd (h.dead e3).2.1 e5⟩
   cases e6 : (decide (d.2.2.2.2.2.2.2.2.2.2.2.2.2.2.2.2.2.2.2.2.1 = 0) && decide (((List.length d.2.2.2.2.2.2.2.2.2.2.2.2.2.2.2.2.2.2.2.2.2.1 : Nat) : Int) = 0))
   · rw [e4, ae e5, e6] at k1; have := some_inj k1; subst this; exact ⟨fun h => (by cases h), fun h => by rw [hnr.2 ⟨(h.dead e3).2.2.1, (h.dead e3).2.2.2.1⟩] at e6; cases e6⟩
   have hn := hnr.1 e6; rw [e4, ae e5, e6] at k1; have := some_inj k1; subst this; rw [decide_eq_true_eq, Q2]; have h3 : d.2.2.2.1 = 0 := hz.2.1; exact ⟨fun h => ⟨a1, a2, fun _ => ⟨hz, e5, hn.1, hn.2, h⟩, .inl hz, ⟨by omega, by omega⟩, .inl ⟨hn.1, hn.2, h⟩⟩, fun h => (h.dead e3).2.2.2.2⟩
def tV : aZ → jB → aZ
 | [], m => [m]
 | r :: xs, m => if r.1 < m.1 then r :: tV xs m else if r.1 = m.1 then r :: xs else m :: r :: xs
def M1 (xs : aZ) : Prop := xs.Pairwise fun a b => a.1 < b.1
def ml (xs : aZ) (m : jB) : Nat := (xs.takeWhile fun r => decide (r.1 < m.1)).length
theorem Q3 (xs : aZ) (m : jB) : ml xs m ≤ xs.length := (List.takeWhile_sublist _).length_le
theorem Bk (r : jB) (xs : aZ) (m : jB) : ml (r :: xs) m = if r.1 < m.1 then ml xs m + 1 else 0 := by
 unfold ml; rw [List.takeWhile_cons]
 by_cases h : r.1 < m.1
 · simp [h]
 · simp [h]
theorem IH (m : jB) : (xs : aZ) → tV xs m = if h : ml xs m < xs.length then (if xs[ml xs m].1 = m.1 then xs else xs.take (ml xs m) ++ ([m] ++ xs.drop (ml xs m))) else xs.take (ml xs m) ++ ([m] ++ xs.drop (ml xs m))
 | [] => rfl
 | r :: xs => by
   have ih := IH m xs; unfold tV
   by_cases h : r.1 < m.1
   · rw [if_pos h, ih]; have hp : ml (r :: xs) m = ml xs m + 1 := by rw [Bk, if_pos h]
     by_cases h2 : ml xs m < xs.length
     · have h3 : ml (r :: xs) m < (r :: xs).length := by rw [hp, List.length_cons]; omega
       rw [dif_pos h2, dif_pos h3]; have e : (r :: xs)[ml (r :: xs) m] = xs[ml xs m] := by simp [hp]
       rw [e]
       by_cases h4 : xs[ml xs m].1 = m.1
       · rw [if_pos h4, if_pos h4]
       · rw [if_neg h4, if_neg h4, hp]; rfl
     · have h3 : ¬ ml (r :: xs) m < (r :: xs).length := by rw [hp, List.length_cons]; omega
       rw [dif_neg h2, dif_neg h3, hp]; rfl
   · rw [if_neg h]; have hp : ml (r :: xs) m = 0 := by rw [Bk, if_neg h]
     have h3 : ml (r :: xs) m < (r :: xs).length := by rw [hp, List.length_cons]; omega
     rw [dif_pos h3]; have e : (r :: xs)[ml (r :: xs) m] = r := by simp [hp]
     rw [e, hp]; rfl
theorem O0 {xs : aZ} (h : gV xs xs.length) : M1 xs := by
 have key : ∀ (d i : Nat) (hi : i + d + 1 < xs.length), xs[i].1 < xs[i + d + 1].1 := by
   intro d
   induction d with
   | zero => intro i hi; exact (h (i + 1) hi hi).2 (by omega)
   | succ d ih =>
     intro i hi; have h1 := ih i (by omega); have h2 := (h (i + (d + 1) + 1) hi hi).2 (by omega); have e : i + (d + 1) + 1 - 1 = i + d + 1 := by omega
     simp only [e] at h2; omega
 unfold M1; rw [List.pairwise_iff_getElem]; intro i j hi hj hij; have := key (j - i - 1) i (by omega); simpa [show i + (j - i - 1) + 1 = j by omega] using this
theorem O1 {xs : aZ} (h : M1 xs) (hi : ∀ r ∈ xs, sw r) : gV xs xs.length := by
 intro k hk _; refine ⟨hi _ (List.getElem_mem hk), fun h0 => ?_⟩; unfold M1 at h; rw [List.pairwise_iff_getElem] at h; exact h (k - 1) k (by omega) hk (by omega)
theorem M3 {xs : aZ} (h : gV xs xs.length) : ∀ r ∈ xs, sw r := by
 intro r hr; obtain ⟨k, hk, rfl⟩ := List.mem_iff_getElem.1 hr; exact (h k hk hk).1
theorem Em {r m : jB} : {xs : aZ} → r ∈ tV xs m → r = m ∨ r ∈ xs
 | [], h => by
   unfold tV at h; exact .inl (List.mem_singleton.1 h)
 | x :: xs, h => by
   unfold tV at h
   split at h
   · rcases List.mem_cons.1 h with rfl | h
     · exact .inr List.mem_cons_self
     · exact (Em h).imp id (List.mem_cons_of_mem _)
   · split at h
     · exact .inr h
     · rcases List.mem_cons.1 h with rfl | h
       · exact .inl rfl
       · exact .inr h
theorem II {m : jB} : {xs : aZ} → M1 xs → M1 (tV xs m)
 | [], _ => by unfold tV M1; simp
 | x :: xs, h => by
   unfold M1 at h; rw [List.pairwise_cons] at h; unfold tV
   split
   · rename_i dm; unfold M1; rw [List.pairwise_cons]; refine ⟨fun y hy => ?_, II h.2⟩; rcases Em hy with rfl | hy
     · exact dm
     · exact h.1 y hy
   · split
     · unfold M1; rw [List.pairwise_cons]; exact h
     · unfold M1; rw [List.pairwise_cons, List.pairwise_cons]; refine ⟨fun y hy => ?_, h⟩; rcases List.mem_cons.1 hy with rfl | hy
       · omega
       · have := h.1 y hy; omega
theorem Kf {xs : aZ} {m : jB} (h : gV xs xs.length) (hm : sw m) : gV (tV xs m) (tV xs m).length :=
 O1 (II (O0 h)) fun r hr => (Em hr).elim (fun e => e ▸ hm) (M3 h r)
def nw (xs : aZ) (m : jB) : aZ := xs.filter fun r => decide (r.1 < m.1)
def sx (xs : aZ) (m : jB) : aZ := xs.filter fun r => decide (m.1 < r.1)
def Aw (xs : aZ) (s : Int) : Bool := xs.any fun r => decide (r.1 = s)
theorem B7 (m : jB) : (xs : aZ) → M1 xs → tV xs m = bif Aw xs m.1 then xs else nw xs m ++ [m] ++ sx xs m
 | [], _ => rfl
 | r :: xs, h => by
   unfold M1 at h; rw [List.pairwise_cons] at h; have ih := B7 m xs h.2; unfold tV
   by_cases h1 : r.1 < m.1
   · rw [if_pos h1, ih]; have e1 : Aw (r :: xs) m.1 = Aw xs m.1 := by unfold Aw; rw [List.any_cons, af (show ¬ r.1 = m.1 by omega)]; rfl
     have e2 : nw (r :: xs) m = r :: nw xs m := by unfold nw; rw [List.filter_cons, if_pos (ae h1)]
     have e3 : sx (r :: xs) m = sx xs m := by unfold sx; rw [List.filter_cons, if_neg (by rw [decide_eq_true_eq]; omega)]
     rw [e1, e2, e3]
     cases Aw xs m.1 <;> rfl
   · rw [if_neg h1]
     by_cases h2 : r.1 = m.1
     · have e1 : Aw (r :: xs) m.1 = true := by unfold Aw; rw [List.any_cons, ae h2]; rfl
       rw [if_pos h2, e1]; rfl
     · rw [if_neg h2]; have qk : ∀ y ∈ r :: xs, m.1 < y.1 := by
         intro y hy; rcases List.mem_cons.1 hy with rfl | hy
         · omega
         · have := h.1 y hy; omega
       have e1 : Aw (r :: xs) m.1 = false := by
         unfold Aw; rw [List.any_eq_false]; intro y hy; have := qk y hy; rw [decide_eq_true_eq]; omega
       have e2 : nw (r :: xs) m = [] := by
         unfold nw; rw [List.filter_eq_nil_iff]; intro y hy; have := qk y hy; rw [decide_eq_true_eq]; omega
       have e3 : sx (r :: xs) m = r :: xs := by
         unfold sx; rw [List.filter_eq_self]; intro y hy; exact ae (qk y hy)
       rw [e1, e2, e3]; rfl
theorem GO (xs : aZ) (m : jB) (h : xs.length ≤ 1048576) (hi : wV xs = true) (hm : FO m = true) : qT xs m.1 m.2.1 m.2.2.1 m.2.2.2.1 = some (tV xs m, ()) := by
 obtain ⟨k1, _, k3⟩ := Av xs h; obtain ⟨q1, _, _⟩ := Ld m; have hs := O0 (k3.1 hi); have hlen : ∀ k, (nw (xs.take k) m).length ≤ k := fun k => Nat.le_trans (List.length_filter_le _ _) (by rw [List.length_take]; omega)
 have H3 : ∀ k, (sx (xs.take k) m).length ≤ k := fun k => Nat.le_trans (List.length_filter_le _ _) (by rw [List.length_take]; omega)
 have l1 := tC (round := iH) (n := xs.length) (fun k => (xs, m.1, m.2.1, m.2.2.1, m.2.2.2.1, xs, nw (xs.take k) m, ((k : Nat) : Int), ())) (fun k => some (bif Aw (xs.drop k) m.1 then .inr (xs, ()) else .inl (xs, m.1, m.2.1, m.2.2.1, m.2.2.2.1, nw xs m, ())))
   ⟨.inl (xs, m.1, m.2.1, m.2.2.1, m.2.2.2.1, nw xs m, ()), by simp only [iH, qt, aD, cond_false, List.take_length], by rw [List.drop_length]; rfl⟩ (fun k hk => by
     have e : Aw (xs.drop k) m.1 = (decide (xs[k].1 = m.1) || Aw (xs.drop (k + 1)) m.1) := by unfold Aw; rw [List.drop_eq_getElem_cons hk, List.any_cons]
     have e2 : nw (xs.take (k + 1)) m = nw (xs.take k) m ++ (if decide (xs[k].1 < m.1) = true then [xs[k]] else []) := by
       unfold nw; rw [List.take_succ_eq_append_getElem hk, List.filter_append, List.filter_cons]
       split <;> rfl
     have hb : Nat.ble (((nw (xs.take k) m).length + 1) * 40) lim = true := bm (by have := hlen k; unfold lim; omega); simp only [iH, qt, aw hk, ar, cond_true, aC, List.getElem?_eq_getElem hk, Option.bind_some, aF (show k < 4611686018427387904 by omega), hb, e, e2]
     by_cases h1 : xs[k].1 = m.1
     · rw [ae h1]; exact .inl ⟨_, rfl, rfl⟩
     · rw [af h1]; refine .inr ⟨?_, rfl⟩
       by_cases h2 : xs[k].1 < m.1
       · rw [ae h2]; rfl
       · rw [af h2, if_neg (by decide), List.append_nil]; rfl) 0 (Nat.zero_le _)
 have l1 : aE iH (xs, m.1, m.2.1, m.2.2.1, m.2.2.2.1, xs, [], (0 : Int), ()) = _ := l1; rw [List.drop_zero] at l1; have l2 := de (round := gz) (e := .inl (nw xs m ++ [m] ++ sx xs m, ())) xs.length (fun k => (xs, m.1, m.2.1, m.2.2.1, m.2.2.2.1, nw xs m ++ [m] ++ sx (xs.take k) m, ((k : Nat) : Int), ())) (by
   simp only [gz, qu, aD, cond_false, List.take_length]) (fun k hk => by
     have e2 : sx (xs.take (k + 1)) m = sx (xs.take k) m ++ (if decide (m.1 < xs[k].1) = true then [xs[k]] else []) := by
       unfold sx; rw [List.take_succ_eq_append_getElem hk, List.filter_append, List.filter_cons]
       split <;> rfl
     have hb : Nat.ble (((nw xs m ++ [m] ++ sx (xs.take k) m).length + 1) * 40) lim = true := bm (by
       have h1 := hlen xs.length; rw [List.take_length] at h1; have h2 := H3 k; simp only [List.length_append, List.length_cons, List.length_nil]; unfold lim; omega)
     simp only [gz, qu, aw hk, ar, cond_true, aC, List.getElem?_eq_getElem hk, Option.bind_some, aF (show k < 4611686018427387904 by omega), hb, e2]
     by_cases h2 : m.1 < xs[k].1
     · rw [ae h2, if_pos rfl, ← List.append_assoc]; rfl
     · rw [af h2, if_neg (by decide), List.append_nil]; rfl)
 have l2 : aE gz (xs, m.1, m.2.1, m.2.2.1, m.2.2.2.1, nw xs m ++ [m] ++ sx (xs.take 0) m, (0 : Int), ()) = _ := l2; rw [show sx (xs.take 0) m = [] from rfl, List.append_nil] at l2; have Xw : Nat.ble ((0 + xs.length) * 40) lim = true := bm (by unfold lim; omega); have LM : Nat.ble (((nw xs m).length + 1) * 40) lim = true := bm (by
   have h1 := hlen xs.length; rw [List.take_length] at h1; unfold lim; omega)
 rw [B7 m xs hs]; unfold qT; simp only [k1, q1, hi, hm, Xw, cond_true, Bool.not_true, cond_false, Option.bind_some, List.nil_append, l1]
 cases Aw xs m.1
 · have l3 : aE gz (xs, m.1, m.2.1, m.2.2.1, m.2.2.2.1, nw xs m ++ [(m.1, m.2.1, m.2.2.1, m.2.2.2.1, ())], (0 : Int), ()) = _ := l2; simp only [cond_false, dK, Option.bind_some, LM, cond_true, l3]
 · rfl
theorem GP (xs : aZ) (m : jB) (h : xs.length ≤ 1048576) : ra xs m.1 m.2.1 m.2.2.1 m.2.2.2.1 = some (tV xs m, ()) := by
 have l1 := tC (round := iK) (n := xs.length) (fun k => (xs, m.1, m.2.1, m.2.2.1, m.2.2.2.1, ((k : Nat) : Int), ())) (fun k => some (.inl (xs, m.1, m.2.1, m.2.2.1, m.2.2.2.1, ((k + ml (xs.drop k) m : Nat) : Int), ())))
   ⟨.inl (xs, m.1, m.2.1, m.2.2.1, m.2.2.2.1, ((xs.length : Nat) : Int), ()), by simp only [iK, qF, aD, cond_false], by rw [List.drop_length]; rfl⟩ (fun k hk => by
     have e : ml (xs.drop k) m = if xs[k].1 < m.1 then ml (xs.drop (k + 1)) m + 1 else 0 := by rw [List.drop_eq_getElem_cons hk, Bk]
     simp only [iK, qF, aw hk, ar, cond_true, aC, iq hk, List.getElem?_eq_getElem hk, Option.bind_some, aF (show k < 4611686018427387904 by omega), e]
     by_cases h1 : xs[k].1 < m.1
     · rw [ae h1, if_pos h1]; exact .inr ⟨rfl, by rw [show k + (ml (xs.drop (k + 1)) m + 1) = k + 1 + ml (xs.drop (k + 1)) m by omega]⟩
     · rw [af h1, if_neg h1]; exact .inl ⟨_, rfl, rfl⟩) 0 (Nat.zero_le _)
 have l1 : aE iK (xs, m.1, m.2.1, m.2.2.1, m.2.2.2.1, (0 : Int), ()) = _ := l1; rw [List.drop_zero, Nat.zero_add] at l1; have hp := Q3 xs m; have agr : Ih xs ((ml xs m : Nat) : Int) [(m.1, m.2.1, m.2.2.1, m.2.2.2.1, ())] = some (xs.take (ml xs m) ++ ([m] ++ xs.drop (ml xs m)), ()) := by
   unfold Ih; rw [ar, ae (show ((ml xs m : Nat) : Int) ≤ ((xs.length : Nat) : Int) by omega), bm (show (xs.length + 1) * 40 ≤ lim by unfold lim; omega)]; rfl
 rw [IH]; unfold ra; simp only [l1, dK, agr, Option.bind_some]
 by_cases h1 : ml xs m < xs.length
 · simp only [dif_pos h1, aw h1, ar, aC, iq h1, cond_true, List.getElem?_eq_getElem h1, Option.bind_some]
   by_cases h2 : xs[ml xs m].1 = m.1
   · rw [ae h2, if_pos h2]; rfl
   · rw [af h2, if_neg h2]; rfl
 · rw [dif_neg h1, af (show ¬ ((ml xs m : Nat) : Int) < ((xs.length : Nat) : Int) by omega)]; rfl
theorem xT (c : Int) (xs : qf) (h : xs.length ≤ 1048576) : fS c xs = some (c, xs, ()) := by
 unfold fS; rw [nv _ h]; rfl
theorem xU (b : GL) (h : b.2.2.2.1.length ≤ 1048576) : j7 b.1 b.2.1 b.2.2.1 b.2.2.2.1 = some b ∧ mM b.1 b.2.1 b.2.2.1 b.2.2.2.1 = some b := by
 constructor
 · unfold j7; rw [bm (show (0 + b.2.2.2.1.length) * 40 ≤ lim by unfold lim; omega)]; rfl
 · unfold mM; rw [B4 _ h]; rfl
theorem Bl (xs : List GL) (h : xs.length + wl aI xs ≤ 1048576) : jE xs = some (xs, ()) := by
 have hl := de (round := dX) (e := .inl (xs, ())) xs.length (fun k => (xs, xs.take k, ((k : Nat) : Int), ())) (by
   simp only [dX, j8, aD, cond_false, List.take_length]) (fun k hk => by
   simp only [dX, j8, aw hk, ar, cond_true, aC, List.getElem?_eq_getElem hk, Option.bind_some, (xU xs[k] (Ek xs hk h)).1, List.length_take, Nat.min_eq_left (Nat.le_of_lt hk), bm (show (k + 1) * 48 ≤ lim by unfold lim; omega), aF (show k < 4611686018427387904 by omega)]; rw [List.take_succ_eq_append_getElem hk])
 have hl : aE dX (xs, [], (0 : Int), ()) = _ := hl; unfold jE; rw [hl]; rfl
theorem Bm (xs : List GL) (h : xs.length + wl aI xs ≤ 1048576) : lS xs = some (xs, ()) := by
 have hl := de (round := fm) (e := .inl (xs, ())) xs.length (fun k => (xs.take k, xs, ((xs.length : Nat) : Int), ((k : Nat) : Int), ())) (by
   simp only [fm, me, aD, cond_false, List.take_length]) (fun k hk => by
   simp only [fm, me, aw hk, ar, cond_true, aC, List.getElem?_eq_getElem hk, Option.bind_some, (xU xs[k] (Ek xs hk h)).2, List.length_take, Nat.min_eq_left (Nat.le_of_lt hk), bm (show (k + 1) * 48 ≤ lim by unfold lim; omega), aF (show k < 4611686018427387904 by omega)]; rw [List.take_succ_eq_append_getElem hk])
 have hl : aE fm ([], xs, ((xs.length : Nat) : Int), (0 : Int), ()) = _ := hl; unfold lS; rw [hl]; rfl
theorem Q4 (d : oC) (h : tU d ≤ 1048576) : lN d.1 d.2.1 d.2.2.1 d.2.2.2.1 d.2.2.2.2.1 d.2.2.2.2.2.1 d.2.2.2.2.2.2.1 d.2.2.2.2.2.2.2.1 d.2.2.2.2.2.2.2.2.1 d.2.2.2.2.2.2.2.2.2.1 d.2.2.2.2.2.2.2.2.2.2.1 d.2.2.2.2.2.2.2.2.2.2.2.1 d.2.2.2.2.2.2.2.2.2.2.2.2.1 d.2.2.2.2.2.2.2.2.2.2.2.2.2.1 d.2.2.2.2.2.2.2.2.2.2.2.2.2.2.1 d.2.2.2.2.2.2.2.2.2.2.2.2.2.2.2.1 d.2.2.2.2.2.2.2.2.2.2.2.2.2.2.2.2.1 d.2.2.2.2.2.2.2.2.2.2.2.2.2.2.2.2.2.1 d.2.2.2.2.2.2.2.2.2.2.2.2.2.2.2.2.2.2.1 d.2.2.2.2.2.2.2.2.2.2.2.2.2.2.2.2.2.2.2.1 d.2.2.2.2.2.2.2.2.2.2.2.2.2.2.2.2.2.2.2.2.1 d.2.2.2.2.2.2.2.2.2.2.2.2.2.2.2.2.2.2.2.2.2.1 d.2.2.2.2.2.2.2.2.2.2.2.2.2.2.2.2.2.2.2.2.2.2.1 d.2.2.2.2.2.2.2.2.2.2.2.2.2.2.2.2.2.2.2.2.2.2.2.1 = some d ∧ iJ d.1 d.2.1 d.2.2.1 d.2.2.2.1 d.2.2.2.2.1 d.2.2.2.2.2.1 d.2.2.2.2.2.2.1 d.2.2.2.2.2.2.2.1 d.2.2.2.2.2.2.2.2.1 d.2.2.2.2.2.2.2.2.2.1 d.2.2.2.2.2.2.2.2.2.2.1 d.2.2.2.2.2.2.2.2.2.2.2.1 d.2.2.2.2.2.2.2.2.2.2.2.2.1 d.2.2.2.2.2.2.2.2.2.2.2.2.2.1 d.2.2.2.2.2.2.2.2.2.2.2.2.2.2.1 d.2.2.2.2.2.2.2.2.2.2.2.2.2.2.2.1 d.2.2.2.2.2.2.2.2.2.2.2.2.2.2.2.2.1 d.2.2.2.2.2.2.2.2.2.2.2.2.2.2.2.2.2.1 d.2.2.2.2.2.2.2.2.2.2.2.2.2.2.2.2.2.2.1 d.2.2.2.2.2.2.2.2.2.2.2.2.2.2.2.2.2.2.2.1 d.2.2.2.2.2.2.2.2.2.2.2.2.2.2.2.2.2.2.2.2.1 d.2.2.2.2.2.2.2.2.2.2.2.2.2.2.2.2.2.2.2.2.2.1 d.2.2.2.2.2.2.2.2.2.2.2.2.2.2.2.2.2.2.2.2.2.2.1 d.2.2.2.2.2.2.2.2.2.2.2.2.2.2.2.2.2.2.2.2.2.2.2.1 = some d := by
 have h0 := h; unfold tU at h0; have p : iW d.2.2.1 d.2.2.2.1 d.2.2.2.2.1 d.2.2.2.2.2.1 d.2.2.2.2.2.2.1 d.2.2.2.2.2.2.2.1 d.2.2.2.2.2.2.2.2.1 d.2.2.2.2.2.2.2.2.2.1 d.2.2.2.2.2.2.2.2.2.2.1 d.2.2.2.2.2.2.2.2.2.2.2.1 d.2.2.2.2.2.2.2.2.2.2.2.2.1 d.2.2.2.2.2.2.2.2.2.2.2.2.2.1 d.2.2.2.2.2.2.2.2.2.2.2.2.2.2.1 d.2.2.2.2.2.2.2.2.2.2.2.2.2.2.2.1 d.2.2.2.2.2.2.2.2.2.2.2.2.2.2.2.2.1 d.2.2.2.2.2.2.2.2.2.2.2.2.2.2.2.2.2.1 = some (d.2.2.1, d.2.2.2.1, d.2.2.2.2.1, d.2.2.2.2.2.1, d.2.2.2.2.2.2.1, d.2.2.2.2.2.2.2.1, d.2.2.2.2.2.2.2.2.1, d.2.2.2.2.2.2.2.2.2.1, d.2.2.2.2.2.2.2.2.2.2.1, d.2.2.2.2.2.2.2.2.2.2.2.1, d.2.2.2.2.2.2.2.2.2.2.2.2.1, d.2.2.2.2.2.2.2.2.2.2.2.2.2.1, d.2.2.2.2.2.2.2.2.2.2.2.2.2.2.1, d.2.2.2.2.2.2.2.2.2.2.2.2.2.2.2.1, d.2.2.2.2.2.2.2.2.2.2.2.2.2.2.2.2.1, d.2.2.2.2.2.2.2.2.2.2.2.2.2.2.2.2.2.1, ()) ∧ gZ d.2.2.1 d.2.2.2.1 d.2.2.2.2.1 d.2.2.2.2.2.1 d.2.2.2.2.2.2.1 d.2.2.2.2.2.2.2.1 d.2.2.2.2.2.2.2.2.1 d.2.2.2.2.2.2.2.2.2.1 d.2.2.2.2.2.2.2.2.2.2.1 d.2.2.2.2.2.2.2.2.2.2.2.1 d.2.2.2.2.2.2.2.2.2.2.2.2.1 d.2.2.2.2.2.2.2.2.2.2.2.2.2.1 d.2.2.2.2.2.2.2.2.2.2.2.2.2.2.1 d.2.2.2.2.2.2.2.2.2.2.2.2.2.2.2.1 d.2.2.2.2.2.2.2.2.2.2.2.2.2.2.2.2.1 d.2.2.2.2.2.2.2.2.2.2.2.2.2.2.2.2.2.1 = some (d.2.2.1, d.2.2.2.1, d.2.2.2.2.1, d.2.2.2.2.2.1, d.2.2.2.2.2.2.1, d.2.2.2.2.2.2.2.1, d.2.2.2.2.2.2.2.2.1, d.2.2.2.2.2.2.2.2.2.1, d.2.2.2.2.2.2.2.2.2.2.1, d.2.2.2.2.2.2.2.2.2.2.2.1, d.2.2.2.2.2.2.2.2.2.2.2.2.1, d.2.2.2.2.2.2.2.2.2.2.2.2.2.1, d.2.2.2.2.2.2.2.2.2.2.2.2.2.2.1, d.2.2.2.2.2.2.2.2.2.2.2.2.2.2.2.1, d.2.2.2.2.2.2.2.2.2.2.2.2.2.2.2.2.1, d.2.2.2.2.2.2.2.2.2.2.2.2.2.2.2.2.2.1, ()) := sU d.2.2.1 d.2.2.2.1 d.2.2.2.2.1 d.2.2.2.2.2.1 d.2.2.2.2.2.2.1 d.2.2.2.2.2.2.2.1 d.2.2.2.2.2.2.2.2.1 d.2.2.2.2.2.2.2.2.2.1 d.2.2.2.2.2.2.2.2.2.2.1 d.2.2.2.2.2.2.2.2.2.2.2.1 d.2.2.2.2.2.2.2.2.2.2.2.2.1 d.2.2.2.2.2.2.2.2.2.2.2.2.2.1 d.2.2.2.2.2.2.2.2.2.2.2.2.2.2.1 d.2.2.2.2.2.2.2.2.2.2.2.2.2.2.2.1 d.2.2.2.2.2.2.2.2.2.2.2.2.2.2.2.2.1 d.2.2.2.2.2.2.2.2.2.2.2.2.2.2.2.2.2.1 (by omega)
 constructor
 · unfold lN; simp only [p.1, Bl d.2.2.2.2.2.2.2.2.2.2.2.2.2.2.2.2.2.2.2.2.2.2.1 (by omega), Cm d.2.2.2.2.2.2.2.2.2.2.2.2.2.2.2.2.2.2.2.2.2.2.2.1 (by omega), Option.bind_some, bm (show (0 + (d.2.2.2.2.2.2.2.2.2.2.2.2.2.2.2.2.2.2.2.2.2.1).length) * 8 ≤ lim by unfold lim; omega), cond_true, List.nil_append]
 · unfold iJ; simp only [p.2, Bm d.2.2.2.2.2.2.2.2.2.2.2.2.2.2.2.2.2.2.2.2.2.2.1 (by omega), Cn d.2.2.2.2.2.2.2.2.2.2.2.2.2.2.2.2.2.2.2.2.2.2.2.1 (by omega), xT d.2.2.2.2.2.2.2.2.2.2.2.2.2.2.2.2.2.2.2.2.1 d.2.2.2.2.2.2.2.2.2.2.2.2.2.2.2.2.2.2.2.2.2.1 (by omega), Option.bind_some]
def kE (d : oC) (m : oB) : oC := (d.1, d.2.1, m.1, m.2.1, m.2.2.1, m.2.2.2.1, m.2.2.2.2.1, m.2.2.2.2.2.1, m.2.2.2.2.2.2.1, m.2.2.2.2.2.2.2.1, m.2.2.2.2.2.2.2.2.1, m.2.2.2.2.2.2.2.2.2.1, m.2.2.2.2.2.2.2.2.2.2.1, m.2.2.2.2.2.2.2.2.2.2.2.1, m.2.2.2.2.2.2.2.2.2.2.2.2.1, m.2.2.2.2.2.2.2.2.2.2.2.2.2.1, m.2.2.2.2.2.2.2.2.2.2.2.2.2.2.1, m.2.2.2.2.2.2.2.2.2.2.2.2.2.2.2.1, d.2.2.2.2.2.2.2.2.2.2.2.2.2.2.2.2.2.2.1, d.2.2.2.2.2.2.2.2.2.2.2.2.2.2.2.2.2.2.2.1, d.2.2.2.2.2.2.2.2.2.2.2.2.2.2.2.2.2.2.2.2.1, d.2.2.2.2.2.2.2.2.2.2.2.2.2.2.2.2.2.2.2.2.2.1, d.2.2.2.2.2.2.2.2.2.2.2.2.2.2.2.2.2.2.2.2.2.2.1, d.2.2.2.2.2.2.2.2.2.2.2.2.2.2.2.2.2.2.2.2.2.2.2.1, ())
theorem aaB (d : oC) : pa (aU d) ≤ tU d := by
 unfold tU; show (List.length d.2.2.2.2.1 + wl dJ d.2.2.2.2.1) + (List.length d.2.2.2.2.2.1 + wl bt d.2.2.2.2.2.1) + (List.length d.2.2.2.2.2.2.1 + wl dJ d.2.2.2.2.2.2.1) + (List.length d.2.2.2.2.2.2.2.1 + wl vU d.2.2.2.2.2.2.2.1) + (List.length d.2.2.2.2.2.2.2.2.2.2.2.2.2.2.2.2.2.1 + wl dJ d.2.2.2.2.2.2.2.2.2.2.2.2.2.2.2.2.2.1) ≤ _; omega
theorem O2 (d : oC) : fc d.2.2.2.2.2.2.2.2.2.2.2.2.2.2.2.2.2.2.2.2.1 d.2.2.2.2.2.2.2.2.2.2.2.2.2.2.2.2.2.2.2.2.2.1 = some ((decide (d.2.2.2.2.2.2.2.2.2.2.2.2.2.2.2.2.2.2.2.2.1 = 0) && decide (((List.length d.2.2.2.2.2.2.2.2.2.2.2.2.2.2.2.2.2.2.2.2.2.1 : Nat) : Int) = 0)), ()) := (tT _ _).1
theorem FR (d : oC) (h : tU d ≤ 1048576) : jQ d.1 d.2.1 d.2.2.1 d.2.2.2.1 d.2.2.2.2.1 d.2.2.2.2.2.1 d.2.2.2.2.2.2.1 d.2.2.2.2.2.2.2.1 d.2.2.2.2.2.2.2.2.1 d.2.2.2.2.2.2.2.2.2.1 d.2.2.2.2.2.2.2.2.2.2.1 d.2.2.2.2.2.2.2.2.2.2.2.1 d.2.2.2.2.2.2.2.2.2.2.2.2.1 d.2.2.2.2.2.2.2.2.2.2.2.2.2.1 d.2.2.2.2.2.2.2.2.2.2.2.2.2.2.1 d.2.2.2.2.2.2.2.2.2.2.2.2.2.2.2.1 d.2.2.2.2.2.2.2.2.2.2.2.2.2.2.2.2.1 d.2.2.2.2.2.2.2.2.2.2.2.2.2.2.2.2.2.1 d.2.2.2.2.2.2.2.2.2.2.2.2.2.2.2.2.2.2.1 d.2.2.2.2.2.2.2.2.2.2.2.2.2.2.2.2.2.2.2.1 d.2.2.2.2.2.2.2.2.2.2.2.2.2.2.2.2.2.2.2.2.1 d.2.2.2.2.2.2.2.2.2.2.2.2.2.2.2.2.2.2.2.2.2.1 d.2.2.2.2.2.2.2.2.2.2.2.2.2.2.2.2.2.2.2.2.2.2.1 d.2.2.2.2.2.2.2.2.2.2.2.2.2.2.2.2.2.2.2.2.2.2.2.1 = some ((Bj d && (!d.2.1 && (decide (0 < d.2.2.2.2.2.2.2.2.2.2.2.2.2.2.2.2.2.2.2.1) && decide (d.2.2.2.2.2.2.2.2.2.2.2.2.2.2.2.2.2.2.2.2.1 = 0)))), ()) := by
 obtain ⟨k1, _, k3⟩ := Ke d h; unfold jQ; simp only [k1, O2, Option.bind_some]
 cases hb : Bj d
 · rfl
 have q := k3.1 hb
 cases hd : d.2.1
 · by_cases ho : 0 < d.2.2.2.2.2.2.2.2.2.2.2.2.2.2.2.2.2.2.2.1
   · rw [ae ho]; rcases q.FQ with j | j
     · rw [j.1, j.2.1]; rfl
     · have : ¬ d.2.2.2.2.2.2.2.2.2.2.2.2.2.2.2.2.2.2.2.2.1 = 0 := by have := j.1.1.1; omega
       rw [af this]; rfl
   · rw [af ho]; rfl
 · rfl
def Ax (xs : aZ) (s : Int) : jB := ((om (dY xs s)).1, (om (dY xs s)).2.1, (om (dY xs s)).2.2.1, (om (dY xs s)).2.2.2.1, ())
def jx (xs : aZ) (h : Int) (k : Nat) : aZ := (List.range k).map fun j => Ax xs (h + ((j + 1 : Nat) : Int))
theorem zb (xs : aZ) (h : Int) (k : Nat) : (jx xs h k).length = k := by simp [jx]
theorem sV (xs : aZ) (h : Int) (k : Nat) : jx xs h (k + 1) = jx xs h k ++ [Ax xs (h + ((k + 1 : Nat) : Int))] := by
 unfold jx; rw [List.range_succ, List.map_append]; rfl
theorem GQ {xs : aZ} {s : Int} (h : gV xs xs.length) : ByteArray.size (Ax xs s).2.2.2.1 ≤ 60 := by
 show ByteArray.size (om (dY xs s)).2.2.2.1 ≤ 60
 cases e : dY xs s with
 | none => exact Nat.zero_le _
 | some r =>
   obtain ⟨k, hk, rfl⟩ := List.mem_iff_getElem.1 (Eh e).1; exact (h k hk hk).1.2.2.2
theorem IJ {xs : aZ} {h : Int} {k : Nat} (hi : gV xs xs.length) : wl bt (jx xs h k) ≤ 60 * k := by
 have := ID bt 60 (jx xs h k) (fun x hx => by
   unfold jx at hx; obtain ⟨j, _, rfl⟩ := List.mem_map.1 hx; exact GQ hi)
 rwa [zb] at this
def Ay (xs : aZ) (line s : Int) : Prop := (Ax xs s).2.2.1 = 2 ∧ line < (Ax xs s).1
theorem O3 (m : oB) (h0 : pa m ≤ 1048576) : ∃ (k : Nat) (v : Int), np m.1 m.2.1 m.2.2.1 m.2.2.2.1 m.2.2.2.2.1 m.2.2.2.2.2.1 m.2.2.2.2.2.2.1 m.2.2.2.2.2.2.2.1 m.2.2.2.2.2.2.2.2.1 m.2.2.2.2.2.2.2.2.2.1 m.2.2.2.2.2.2.2.2.2.2.1 m.2.2.2.2.2.2.2.2.2.2.2.1 m.2.2.2.2.2.2.2.2.2.2.2.2.1 m.2.2.2.2.2.2.2.2.2.2.2.2.2.1 m.2.2.2.2.2.2.2.2.2.2.2.2.2.2.1 m.2.2.2.2.2.2.2.2.2.2.2.2.2.2.2.1 = some (m.1, m.2.1, m.2.2.1, m.2.2.2.1, m.2.2.2.2.1, m.2.2.2.2.2.1, m.2.2.2.2.2.2.1, m.2.2.2.2.2.2.2.1, m.2.2.2.2.2.2.2.2.1, v, m.2.2.2.2.2.2.2.2.2.2.1, m.2.2.2.2.2.2.2.2.2.2.2.1, m.2.2.2.2.2.2.2.2.2.2.2.2.1, m.2.2.2.2.2.2.2.2.2.2.2.2.2.1, m.2.2.2.2.2.2.2.2.2.2.2.2.2.2.1, m.2.2.2.2.2.2.2.2.2.2.2.2.2.2.2.1, jx m.2.2.2.1 m.2.2.2.2.2.2.2.2.2.1 k, ()) ∧ oU m.1 m.2.1 m.2.2.1 m.2.2.2.1 m.2.2.2.2.1 m.2.2.2.2.2.1 m.2.2.2.2.2.2.1 m.2.2.2.2.2.2.2.1 m.2.2.2.2.2.2.2.2.1 m.2.2.2.2.2.2.2.2.2.1 m.2.2.2.2.2.2.2.2.2.2.1 m.2.2.2.2.2.2.2.2.2.2.2.1 m.2.2.2.2.2.2.2.2.2.2.2.2.1 m.2.2.2.2.2.2.2.2.2.2.2.2.2.1 m.2.2.2.2.2.2.2.2.2.2.2.2.2.2.1 m.2.2.2.2.2.2.2.2.2.2.2.2.2.2.2.1 = some (m.1, m.2.1, m.2.2.1, m.2.2.2.1, m.2.2.2.2.1, m.2.2.2.2.2.1, m.2.2.2.2.2.2.1, m.2.2.2.2.2.2.2.1, m.2.2.2.2.2.2.2.2.1, v, m.2.2.2.2.2.2.2.2.2.2.1, m.2.2.2.2.2.2.2.2.2.2.2.1, m.2.2.2.2.2.2.2.2.2.2.2.2.1, m.2.2.2.2.2.2.2.2.2.2.2.2.2.1, m.2.2.2.2.2.2.2.2.2.2.2.2.2.2.1, m.2.2.2.2.2.2.2.2.2.2.2.2.2.2.2.1, jx m.2.2.2.1 m.2.2.2.2.2.2.2.2.2.1 k, ()) ∧ v = m.2.2.2.2.2.2.2.2.2.1 + ((k : Nat) : Int) ∧
   (wX m = false → k = 0) ∧ (wX m = true → v ≤ ((eU m.2.2.2.1 : Nat) : Int) ∧ (∀ j, j < k → ¬ Ay m.2.2.2.1 m.2.2.2.2.2.2.2.2.1 (m.2.2.2.2.2.2.2.2.2.1 + ((j + 1 : Nat) : Int))) ∧ (v < ((eU m.2.2.2.1 : Nat) : Int) → Ay m.2.2.2.1 m.2.2.2.2.2.2.2.2.1 (m.2.2.2.2.2.2.2.2.2.1 + ((k + 1 : Nat) : Int)))) := by
 obtain ⟨k1, k2, k3⟩ := za m h0; obtain ⟨p1, p2⟩ := sU m.1 m.2.1 m.2.2.1 m.2.2.2.1 m.2.2.2.2.1 m.2.2.2.2.2.1 m.2.2.2.2.2.2.1 m.2.2.2.2.2.2.2.1 m.2.2.2.2.2.2.2.2.1 m.2.2.2.2.2.2.2.2.2.1 m.2.2.2.2.2.2.2.2.2.2.1 m.2.2.2.2.2.2.2.2.2.2.2.1 m.2.2.2.2.2.2.2.2.2.2.2.2.1 m.2.2.2.2.2.2.2.2.2.2.2.2.2.1 m.2.2.2.2.2.2.2.2.2.2.2.2.2.2.1 m.2.2.2.2.2.2.2.2.2.2.2.2.2.2.2.1 h0; unfold np oU; simp only [k1, k2, p1, p2, Option.bind_some]
 cases hb : wX m
 · exact ⟨0, m.2.2.2.2.2.2.2.2.2.1, rfl, rfl, by omega, (fun _ => rfl), (fun h => by cases h)⟩
 have hm := k3.1 hb; have hit := ja m.2.2.2.1 hm.items; have hl : m.2.2.2.1.length ≤ 1048576 := by omega
 obtain ⟨a1, a2, a3⟩ := Bh m.2.2.2.1 hl; have hh := hm.heard; generalize hn : eU m.2.2.2.1 = n at a1 a2 a3 hh; have amF : n ≤ 60 := Nat.le_trans a3.1 hit.1; obtain ⟨e, f, g1, g2, k, v, g3, g4, g5, g6, g7, g8⟩ : ∃ e f, aE n6 (m.1, m.2.1, m.2.2.1, m.2.2.2.1, m.2.2.2.2.1, m.2.2.2.2.2.1, m.2.2.2.2.2.2.1, m.2.2.2.2.2.2.2.1, m.2.2.2.2.2.2.2.2.1, m.2.2.2.2.2.2.2.2.2.1, m.2.2.2.2.2.2.2.2.2.2.1, m.2.2.2.2.2.2.2.2.2.2.2.1, m.2.2.2.2.2.2.2.2.2.2.2.2.1, m.2.2.2.2.2.2.2.2.2.2.2.2.2.1, m.2.2.2.2.2.2.2.2.2.2.2.2.2.2.1, m.2.2.2.2.2.2.2.2.2.2.2.2.2.2.2.1, (0 : Int), (0 : Int), [], [], [], [], (0 : Int), (0 : Int), (0 : Int), (0 : Int), (0 : Int), (0 : Int), (0 : Int), (0 : Int), (0 : Int), [], m.1, m.2.1, m.2.2.1, m.2.2.2.1, m.2.2.2.2.1, m.2.2.2.2.2.1, m.2.2.2.2.2.2.1, m.2.2.2.2.2.2.2.1, m.2.2.2.2.2.2.2.2.1, m.2.2.2.2.2.2.2.2.2.1, m.2.2.2.2.2.2.2.2.2.2.1, m.2.2.2.2.2.2.2.2.2.2.2.1, m.2.2.2.2.2.2.2.2.2.2.2.2.1, m.2.2.2.2.2.2.2.2.2.2.2.2.2.1, m.2.2.2.2.2.2.2.2.2.2.2.2.2.2.1, m.2.2.2.2.2.2.2.2.2.2.2.2.2.2.2.1, [], ((n : Nat) : Int), ()) = some e ∧ aE n9 (m.1, m.2.1, m.2.2.1, m.2.2.2.1, m.2.2.2.2.1, m.2.2.2.2.2.1, m.2.2.2.2.2.2.1, m.2.2.2.2.2.2.2.1, m.2.2.2.2.2.2.2.2.1, m.2.2.2.2.2.2.2.2.2.1, m.2.2.2.2.2.2.2.2.2.2.1, m.2.2.2.2.2.2.2.2.2.2.2.1, m.2.2.2.2.2.2.2.2.2.2.2.2.1, m.2.2.2.2.2.2.2.2.2.2.2.2.2.1, m.2.2.2.2.2.2.2.2.2.2.2.2.2.2.1, m.2.2.2.2.2.2.2.2.2.2.2.2.2.2.2.1, (0 : Int), (0 : Int), [], [], [], [], (0 : Int), (0 : Int), (0 : Int), (0 : Int), (0 : Int), (0 : Int), (0 : Int), (0 : Int), (0 : Int), [], m.1, m.2.1, m.2.2.1, m.2.2.2.1, m.2.2.2.2.1, m.2.2.2.2.2.1, m.2.2.2.2.2.2.1, m.2.2.2.2.2.2.2.1, m.2.2.2.2.2.2.2.2.1, m.2.2.2.2.2.2.2.2.2.1, m.2.2.2.2.2.2.2.2.2.2.1, m.2.2.2.2.2.2.2.2.2.2.2.1, m.2.2.2.2.2.2.2.2.2.2.2.2.1, m.2.2.2.2.2.2.2.2.2.2.2.2.2.1, m.2.2.2.2.2.2.2.2.2.2.2.2.2.2.1, m.2.2.2.2.2.2.2.2.2.2.2.2.2.2.2.1, [], ()) = some f ∧
     ∃ (k : Nat) (v : Int), (e = .inl ((0 : Int), (0 : Int), [], [], [], [], (0 : Int), (0 : Int), (0 : Int), (0 : Int), (0 : Int), (0 : Int), (0 : Int), (0 : Int), (0 : Int), [], m.1, m.2.1, m.2.2.1, m.2.2.2.1, m.2.2.2.2.1, m.2.2.2.2.2.1, m.2.2.2.2.2.2.1, m.2.2.2.2.2.2.2.1, m.2.2.2.2.2.2.2.2.1, v, m.2.2.2.2.2.2.2.2.2.2.1, m.2.2.2.2.2.2.2.2.2.2.2.1, m.2.2.2.2.2.2.2.2.2.2.2.2.1, m.2.2.2.2.2.2.2.2.2.2.2.2.2.1, m.2.2.2.2.2.2.2.2.2.2.2.2.2.2.1, m.2.2.2.2.2.2.2.2.2.2.2.2.2.2.2.1, jx m.2.2.2.1 m.2.2.2.2.2.2.2.2.2.1 k, ()) ∨ e = .inr (m.1, m.2.1, m.2.2.1, m.2.2.2.1, m.2.2.2.2.1, m.2.2.2.2.2.1, m.2.2.2.2.2.2.1, m.2.2.2.2.2.2.2.1, m.2.2.2.2.2.2.2.2.1, v, m.2.2.2.2.2.2.2.2.2.2.1, m.2.2.2.2.2.2.2.2.2.2.2.1, m.2.2.2.2.2.2.2.2.2.2.2.2.1, m.2.2.2.2.2.2.2.2.2.2.2.2.2.1, m.2.2.2.2.2.2.2.2.2.2.2.2.2.2.1, m.2.2.2.2.2.2.2.2.2.2.2.2.2.2.2.1, jx m.2.2.2.1 m.2.2.2.2.2.2.2.2.2.1 k, ())) ∧ f = .inl ((0 : Int), (0 : Int), [], [], [], [], (0 : Int), (0 : Int), (0 : Int), (0 : Int), (0 : Int), (0 : Int), (0 : Int), (0 : Int), (0 : Int), [], m.1, m.2.1, m.2.2.1, m.2.2.2.1, m.2.2.2.2.1, m.2.2.2.2.2.1, m.2.2.2.2.2.2.1, m.2.2.2.2.2.2.2.1, m.2.2.2.2.2.2.2.2.1, v, m.2.2.2.2.2.2.2.2.2.2.1, m.2.2.2.2.2.2.2.2.2.2.2.1, m.2.2.2.2.2.2.2.2.2.2.2.2.1, m.2.2.2.2.2.2.2.2.2.2.2.2.2.1, m.2.2.2.2.2.2.2.2.2.2.2.2.2.2.1, m.2.2.2.2.2.2.2.2.2.2.2.2.2.2.2.1, jx m.2.2.2.1 m.2.2.2.2.2.2.2.2.2.1 k, ()) ∧ v = m.2.2.2.2.2.2.2.2.2.1 + ((k : Nat) : Int) ∧ v ≤ ((n : Nat) : Int) ∧
       (∀ j, j < k → ¬ Ay m.2.2.2.1 m.2.2.2.2.2.2.2.2.1 (m.2.2.2.2.2.2.2.2.2.1 + ((j + 1 : Nat) : Int))) ∧ (v < ((n : Nat) : Int) → Ay m.2.2.2.1 m.2.2.2.2.2.2.2.2.1 (m.2.2.2.2.2.2.2.2.2.1 + ((k + 1 : Nat) : Int))) := by
   refine nM 60 (fun k x y => ∃ v : Int, x = (m.1, m.2.1, m.2.2.1, m.2.2.2.1, m.2.2.2.2.1, m.2.2.2.2.2.1, m.2.2.2.2.2.2.1, m.2.2.2.2.2.2.2.1, m.2.2.2.2.2.2.2.2.1, m.2.2.2.2.2.2.2.2.2.1, m.2.2.2.2.2.2.2.2.2.2.1, m.2.2.2.2.2.2.2.2.2.2.2.1, m.2.2.2.2.2.2.2.2.2.2.2.2.1, m.2.2.2.2.2.2.2.2.2.2.2.2.2.1, m.2.2.2.2.2.2.2.2.2.2.2.2.2.2.1, m.2.2.2.2.2.2.2.2.2.2.2.2.2.2.2.1, (0 : Int), (0 : Int), [], [], [], [], (0 : Int), (0 : Int), (0 : Int), (0 : Int), (0 : Int), (0 : Int), (0 : Int), (0 : Int), (0 : Int), [], m.1, m.2.1, m.2.2.1, m.2.2.2.1, m.2.2.2.2.1, m.2.2.2.2.2.1, m.2.2.2.2.2.2.1, m.2.2.2.2.2.2.2.1, m.2.2.2.2.2.2.2.2.1, v, m.2.2.2.2.2.2.2.2.2.2.1, m.2.2.2.2.2.2.2.2.2.2.2.1, m.2.2.2.2.2.2.2.2.2.2.2.2.1, m.2.2.2.2.2.2.2.2.2.2.2.2.2.1, m.2.2.2.2.2.2.2.2.2.2.2.2.2.2.1, m.2.2.2.2.2.2.2.2.2.2.2.2.2.2.2.1, jx m.2.2.2.1 m.2.2.2.2.2.2.2.2.2.1 k, ((n : Nat) : Int), ()) ∧ y = (m.1, m.2.1, m.2.2.1, m.2.2.2.1, m.2.2.2.2.1, m.2.2.2.2.2.1, m.2.2.2.2.2.2.1, m.2.2.2.2.2.2.2.1, m.2.2.2.2.2.2.2.2.1, m.2.2.2.2.2.2.2.2.2.1, m.2.2.2.2.2.2.2.2.2.2.1, m.2.2.2.2.2.2.2.2.2.2.2.1, m.2.2.2.2.2.2.2.2.2.2.2.2.1, m.2.2.2.2.2.2.2.2.2.2.2.2.2.1, m.2.2.2.2.2.2.2.2.2.2.2.2.2.2.1, m.2.2.2.2.2.2.2.2.2.2.2.2.2.2.2.1, (0 : Int), (0 : Int), [], [], [], [], (0 : Int), (0 : Int), (0 : Int), (0 : Int), (0 : Int), (0 : Int), (0 : Int), (0 : Int), (0 : Int), [], m.1, m.2.1, m.2.2.1, m.2.2.2.1, m.2.2.2.2.1, m.2.2.2.2.2.1, m.2.2.2.2.2.2.1, m.2.2.2.2.2.2.2.1, m.2.2.2.2.2.2.2.2.1, v, m.2.2.2.2.2.2.2.2.2.2.1, m.2.2.2.2.2.2.2.2.2.2.2.1, m.2.2.2.2.2.2.2.2.2.2.2.2.1, m.2.2.2.2.2.2.2.2.2.2.2.2.2.1, m.2.2.2.2.2.2.2.2.2.2.2.2.2.2.1, m.2.2.2.2.2.2.2.2.2.2.2.2.2.2.2.1, jx m.2.2.2.1 m.2.2.2.2.2.2.2.2.2.1 k, ()) ∧ v = m.2.2.2.2.2.2.2.2.2.1 + ((k : Nat) : Int) ∧ v ≤ ((n : Nat) : Int) ∧ ∀ j, j < k → ¬ Ay m.2.2.2.1 m.2.2.2.2.2.2.2.2.1 (m.2.2.2.2.2.2.2.2.2.1 + ((j + 1 : Nat) : Int))) _ ?_ ⟨m.2.2.2.2.2.2.2.2.2.1, rfl, rfl, by omega, hh.2, fun j h => by omega⟩
   rintro k x y hk ⟨v, rfl, rfl, q1, q2, q3⟩
   by_cases dm : v < ((n : Nat) : Int)
   · have hw : IntKind.i64.wrap (v + (1 : Int)) = m.2.2.2.2.2.2.2.2.2.1 + ((k + 1 : Nat) : Int) := by rw [dR] <;> omega
     have hbl : Nat.ble (((jx m.2.2.2.1 m.2.2.2.2.2.2.2.2.2.1 k).length + 1) * 40) lim = true := bm (by rw [zb]; unfold lim; omega); have more : ¬ Ay m.2.2.2.1 m.2.2.2.2.2.2.2.2.1 (m.2.2.2.2.2.2.2.2.2.1 + ((k + 1 : Nat) : Int)) → ∀ j, j < k + 1 → ¬ Ay m.2.2.2.1 m.2.2.2.2.2.2.2.2.1 (m.2.2.2.2.2.2.2.2.2.1 + ((j + 1 : Nat) : Int)) := fun hnw j hj => by
       by_cases e : j < k
       · exact q3 j e
       · have : j = k := by omega
         subst this; exact hnw
     simp only [n6, uP, n9, vg, ae dm, a2, hw, sR m.2.2.2.1 _ hl, sS m.2.2.2.1 _ hl, Option.bind_some, cond_true, hbl]
     by_cases c1 : (om (dY m.2.2.2.1 (m.2.2.2.2.2.2.2.2.2.1 + ((k + 1 : Nat) : Int)))).2.2.1 = 2
     · rw [ae c1]
       by_cases c2 : m.2.2.2.2.2.2.2.2.1 < (om (dY m.2.2.2.1 (m.2.2.2.2.2.2.2.2.2.1 + ((k + 1 : Nat) : Int)))).1
       · rw [ae c2]; exact .inl ⟨_, _, rfl, rfl, k, v, .inr rfl, rfl, q1, q2, q3, fun _ => ⟨c1, c2⟩⟩
       · rw [af c2]; exact .inr ⟨by omega, _, _, rfl, rfl, m.2.2.2.2.2.2.2.2.2.1 + ((k + 1 : Nat) : Int), by rw [sV]; rfl, by rw [sV]; rfl, rfl, by omega, more fun h => c2 h.2⟩
     · rw [af c1]; exact .inr ⟨by omega, _, _, rfl, rfl, m.2.2.2.2.2.2.2.2.2.1 + ((k + 1 : Nat) : Int), by rw [sV]; rfl, by rw [sV]; rfl, rfl, by omega, more fun h => c1 h.1⟩
   · simp only [n6, uP, n9, vg, af dm, a2, Option.bind_some, cond_false]; exact .inl ⟨_, _, rfl, rfl, k, v, .inl rfl, rfl, q1, q2, q3, fun h => absurd h dm⟩
 simp only [a1, Option.bind_some, Bool.not_true, cond_false]; rw [g1, g2, g4]; refine ⟨k, v, ?_, rfl, g5, (fun h => by cases h), (fun _ => ⟨by first | exact g6 | (rw [hn]; exact g6), g7, fun h => g8 (by first | exact h | (rw [hn] at h; exact h))⟩)⟩; rcases g3 with rfl | rfl
 · rfl
 · rfl
noncomputable def bz (m : oB) : oB × aZ := match np m.1 m.2.1 m.2.2.1 m.2.2.2.1 m.2.2.2.2.1 m.2.2.2.2.2.1 m.2.2.2.2.2.2.1 m.2.2.2.2.2.2.2.1 m.2.2.2.2.2.2.2.2.1 m.2.2.2.2.2.2.2.2.2.1 m.2.2.2.2.2.2.2.2.2.2.1 m.2.2.2.2.2.2.2.2.2.2.2.1 m.2.2.2.2.2.2.2.2.2.2.2.2.1 m.2.2.2.2.2.2.2.2.2.2.2.2.2.1 m.2.2.2.2.2.2.2.2.2.2.2.2.2.2.1 m.2.2.2.2.2.2.2.2.2.2.2.2.2.2.2.1 with
 | some x => ((x.1, x.2.1, x.2.2.1, x.2.2.2.1, x.2.2.2.2.1, x.2.2.2.2.2.1, x.2.2.2.2.2.2.1, x.2.2.2.2.2.2.2.1, x.2.2.2.2.2.2.2.2.1, x.2.2.2.2.2.2.2.2.2.1, x.2.2.2.2.2.2.2.2.2.2.1, x.2.2.2.2.2.2.2.2.2.2.2.1, x.2.2.2.2.2.2.2.2.2.2.2.2.1, x.2.2.2.2.2.2.2.2.2.2.2.2.2.1, x.2.2.2.2.2.2.2.2.2.2.2.2.2.2.1, x.2.2.2.2.2.2.2.2.2.2.2.2.2.2.2.1, ()), x.2.2.2.2.2.2.2.2.2.2.2.2.2.2.2.2.1)
 | none => (m, [])
theorem GR (m : oB) (h0 : pa m ≤ 1048576) : ∃ (k : Nat) (v : Int), bz m = ((m.1, m.2.1, m.2.2.1, m.2.2.2.1, m.2.2.2.2.1, m.2.2.2.2.2.1, m.2.2.2.2.2.2.1, m.2.2.2.2.2.2.2.1, m.2.2.2.2.2.2.2.2.1, v, m.2.2.2.2.2.2.2.2.2.2.1, m.2.2.2.2.2.2.2.2.2.2.2.1, m.2.2.2.2.2.2.2.2.2.2.2.2.1, m.2.2.2.2.2.2.2.2.2.2.2.2.2.1, m.2.2.2.2.2.2.2.2.2.2.2.2.2.2.1, m.2.2.2.2.2.2.2.2.2.2.2.2.2.2.2.1, ()), jx m.2.2.2.1 m.2.2.2.2.2.2.2.2.2.1 k) ∧ np m.1 m.2.1 m.2.2.1 m.2.2.2.1 m.2.2.2.2.1 m.2.2.2.2.2.1 m.2.2.2.2.2.2.1 m.2.2.2.2.2.2.2.1 m.2.2.2.2.2.2.2.2.1 m.2.2.2.2.2.2.2.2.2.1 m.2.2.2.2.2.2.2.2.2.2.1 m.2.2.2.2.2.2.2.2.2.2.2.1 m.2.2.2.2.2.2.2.2.2.2.2.2.1 m.2.2.2.2.2.2.2.2.2.2.2.2.2.1 m.2.2.2.2.2.2.2.2.2.2.2.2.2.2.1 m.2.2.2.2.2.2.2.2.2.2.2.2.2.2.2.1 = some (m.1, m.2.1, m.2.2.1, m.2.2.2.1, m.2.2.2.2.1, m.2.2.2.2.2.1, m.2.2.2.2.2.2.1, m.2.2.2.2.2.2.2.1, m.2.2.2.2.2.2.2.2.1, v, m.2.2.2.2.2.2.2.2.2.2.1, m.2.2.2.2.2.2.2.2.2.2.2.1, m.2.2.2.2.2.2.2.2.2.2.2.2.1, m.2.2.2.2.2.2.2.2.2.2.2.2.2.1, m.2.2.2.2.2.2.2.2.2.2.2.2.2.2.1, m.2.2.2.2.2.2.2.2.2.2.2.2.2.2.2.1, jx m.2.2.2.1 m.2.2.2.2.2.2.2.2.2.1 k, ()) ∧ oU m.1 m.2.1 m.2.2.1 m.2.2.2.1 m.2.2.2.2.1 m.2.2.2.2.2.1 m.2.2.2.2.2.2.1 m.2.2.2.2.2.2.2.1 m.2.2.2.2.2.2.2.2.1 m.2.2.2.2.2.2.2.2.2.1 m.2.2.2.2.2.2.2.2.2.2.1 m.2.2.2.2.2.2.2.2.2.2.2.1 m.2.2.2.2.2.2.2.2.2.2.2.2.1 m.2.2.2.2.2.2.2.2.2.2.2.2.2.1 m.2.2.2.2.2.2.2.2.2.2.2.2.2.2.1 m.2.2.2.2.2.2.2.2.2.2.2.2.2.2.2.1 = some (m.1, m.2.1, m.2.2.1, m.2.2.2.1, m.2.2.2.2.1, m.2.2.2.2.2.1, m.2.2.2.2.2.2.1, m.2.2.2.2.2.2.2.1, m.2.2.2.2.2.2.2.2.1, v, m.2.2.2.2.2.2.2.2.2.2.1, m.2.2.2.2.2.2.2.2.2.2.2.1, m.2.2.2.2.2.2.2.2.2.2.2.2.1, m.2.2.2.2.2.2.2.2.2.2.2.2.2.1, m.2.2.2.2.2.2.2.2.2.2.2.2.2.2.1, m.2.2.2.2.2.2.2.2.2.2.2.2.2.2.2.1, jx m.2.2.2.1 m.2.2.2.2.2.2.2.2.2.1 k, ()) ∧ v = m.2.2.2.2.2.2.2.2.2.1 + ((k : Nat) : Int) ∧
   (wX m = false → k = 0) ∧ (wX m = true → v ≤ ((eU m.2.2.2.1 : Nat) : Int) ∧ (∀ j, j < k → ¬ Ay m.2.2.2.1 m.2.2.2.2.2.2.2.2.1 (m.2.2.2.2.2.2.2.2.2.1 + ((j + 1 : Nat) : Int))) ∧ (v < ((eU m.2.2.2.1 : Nat) : Int) → Ay m.2.2.2.1 m.2.2.2.2.2.2.2.2.1 (m.2.2.2.2.2.2.2.2.2.1 + ((k + 1 : Nat) : Int)))) := by
 obtain ⟨k, v, h1, h2, h3⟩ := O3 m h0; exact ⟨k, v, by unfold bz; rw [h1], h1, h2, h3⟩
theorem M4 (m : oB) (h0 : pa m ≤ 1048576) : np m.1 m.2.1 m.2.2.1 m.2.2.2.1 m.2.2.2.2.1 m.2.2.2.2.2.1 m.2.2.2.2.2.2.1 m.2.2.2.2.2.2.2.1 m.2.2.2.2.2.2.2.2.1 m.2.2.2.2.2.2.2.2.2.1 m.2.2.2.2.2.2.2.2.2.2.1 m.2.2.2.2.2.2.2.2.2.2.2.1 m.2.2.2.2.2.2.2.2.2.2.2.2.1 m.2.2.2.2.2.2.2.2.2.2.2.2.2.1 m.2.2.2.2.2.2.2.2.2.2.2.2.2.2.1 m.2.2.2.2.2.2.2.2.2.2.2.2.2.2.2.1 = some ((bz m).1.1, (bz m).1.2.1, (bz m).1.2.2.1, (bz m).1.2.2.2.1, (bz m).1.2.2.2.2.1, (bz m).1.2.2.2.2.2.1, (bz m).1.2.2.2.2.2.2.1, (bz m).1.2.2.2.2.2.2.2.1, (bz m).1.2.2.2.2.2.2.2.2.1, (bz m).1.2.2.2.2.2.2.2.2.2.1, (bz m).1.2.2.2.2.2.2.2.2.2.2.1, (bz m).1.2.2.2.2.2.2.2.2.2.2.2.1, (bz m).1.2.2.2.2.2.2.2.2.2.2.2.2.1, (bz m).1.2.2.2.2.2.2.2.2.2.2.2.2.2.1, (bz m).1.2.2.2.2.2.2.2.2.2.2.2.2.2.2.1, (bz m).1.2.2.2.2.2.2.2.2.2.2.2.2.2.2.2.1, (bz m).2, ()) ∧ oU m.1 m.2.1 m.2.2.1 m.2.2.2.1 m.2.2.2.2.1 m.2.2.2.2.2.1 m.2.2.2.2.2.2.1 m.2.2.2.2.2.2.2.1 m.2.2.2.2.2.2.2.2.1 m.2.2.2.2.2.2.2.2.2.1 m.2.2.2.2.2.2.2.2.2.2.1 m.2.2.2.2.2.2.2.2.2.2.2.1 m.2.2.2.2.2.2.2.2.2.2.2.2.1 m.2.2.2.2.2.2.2.2.2.2.2.2.2.1 m.2.2.2.2.2.2.2.2.2.2.2.2.2.2.1 m.2.2.2.2.2.2.2.2.2.2.2.2.2.2.2.1 = some ((bz m).1.1, (bz m).1.2.1, (bz m).1.2.2.1, (bz m).1.2.2.2.1, (bz m).1.2.2.2.2.1, (bz m).1.2.2.2.2.2.1, (bz m).1.2.2.2.2.2.2.1, (bz m).1.2.2.2.2.2.2.2.1, (bz m).1.2.2.2.2.2.2.2.2.1, (bz m).1.2.2.2.2.2.2.2.2.2.1, (bz m).1.2.2.2.2.2.2.2.2.2.2.1, (bz m).1.2.2.2.2.2.2.2.2.2.2.2.1, (bz m).1.2.2.2.2.2.2.2.2.2.2.2.2.1, (bz m).1.2.2.2.2.2.2.2.2.2.2.2.2.2.1, (bz m).1.2.2.2.2.2.2.2.2.2.2.2.2.2.2.1, (bz m).1.2.2.2.2.2.2.2.2.2.2.2.2.2.2.2.1, (bz m).2, ()) := by
 obtain ⟨k, v, h1, h2, h3, _⟩ := GR m h0; rw [h1]; exact ⟨h2, h3⟩
theorem FT (m : oB) (h0 : pa m ≤ 1048576) : pa (bz m).1 = pa m ∧ (bz m).2.length ≤ 60 ∧ wl bt (bz m).2 ≤ 3600 := by
 obtain ⟨k, v, h1, _, _, h4, h5, h6⟩ := GR m h0; rw [h1]; refine ⟨rfl, ?_⟩
 cases hb : wX m
 · rw [h5 hb]; exact ⟨Nat.zero_le _, Nat.zero_le _⟩
 · have hm := (za m h0).2.2.1 hb; have hit := ja _ hm.items; have ha := (Bh m.2.2.2.1 (by omega)).2.2.1; have hh := hm.heard; have := (h6 hb).1; have hk : k ≤ 60 := by omega
   have := IJ (h := m.2.2.2.2.2.2.2.2.2.1) (k := k) hm.items; refine ⟨?_, ?_⟩
   · show (jx m.2.2.2.1 m.2.2.2.2.2.2.2.2.2.1 k).length ≤ 60; rw [zb]; exact hk
   · show wl bt (jx m.2.2.2.1 m.2.2.2.2.2.2.2.2.2.1 k) ≤ 3600; omega
def nz (c : Int) (ms : qf) (l : aZ) : List Q0 := l.map fun x => (1, c, ms, x.1, x.2.1, x.2.2.1, x.2.2.2.1, [], ())
theorem Bn (c : Int) (ms : qf) (l : aZ) : (nz c ms l).length = l.length := by simp [nz]
theorem Le (c : Int) (ms : qf) : (l : aZ) → wl aA (nz c ms l) = l.length * (ms.length + wl dJ ms) + wl bt l
 | [] => by simp [nz, DC]
 | x :: l => by
   have ih := Le c ms l; have e : nz c ms (x :: l) = (1, c, ms, x.1, x.2.1, x.2.2.1, x.2.2.2.1, [], ()) :: nz c ms l := rfl; rw [e, zS, ih, zS, List.length_cons, Nat.add_mul]; have e1 : aA ((1, c, ms, x.1, x.2.1, x.2.2.1, x.2.2.2.1, [], ()) : Q0) = (ms.length + wl dJ ms) + ByteArray.size x.2.2.2.1 + 0 := rfl; have e2 : bt x = ByteArray.size x.2.2.2.1 := rfl; omega
theorem EZ (c : Int) (xs : qf) (h : xs.length ≤ 1048576) : fG c xs = some (c, xs, ()) := by
 unfold fG; rw [bm (show (0 + xs.length) * 8 ≤ lim by unfold lim; omega)]; rfl
def xo (d : oC) (l : aZ) : oC := (d.1, d.2.1, d.2.2.1, d.2.2.2.1, d.2.2.2.2.1, d.2.2.2.2.2.1, d.2.2.2.2.2.2.1, d.2.2.2.2.2.2.2.1, d.2.2.2.2.2.2.2.2.1, d.2.2.2.2.2.2.2.2.2.1, d.2.2.2.2.2.2.2.2.2.2.1, d.2.2.2.2.2.2.2.2.2.2.2.1, d.2.2.2.2.2.2.2.2.2.2.2.2.1, d.2.2.2.2.2.2.2.2.2.2.2.2.2.1, d.2.2.2.2.2.2.2.2.2.2.2.2.2.2.1, d.2.2.2.2.2.2.2.2.2.2.2.2.2.2.2.1, d.2.2.2.2.2.2.2.2.2.2.2.2.2.2.2.2.1, d.2.2.2.2.2.2.2.2.2.2.2.2.2.2.2.2.2.1, d.2.2.2.2.2.2.2.2.2.2.2.2.2.2.2.2.2.2.1, d.2.2.2.2.2.2.2.2.2.2.2.2.2.2.2.2.2.2.2.1, d.2.2.2.2.2.2.2.2.2.2.2.2.2.2.2.2.2.2.2.2.1, d.2.2.2.2.2.2.2.2.2.2.2.2.2.2.2.2.2.2.2.2.2.1, d.2.2.2.2.2.2.2.2.2.2.2.2.2.2.2.2.2.2.2.2.2.2.1, d.2.2.2.2.2.2.2.2.2.2.2.2.2.2.2.2.2.2.2.2.2.2.2.1 ++ nz d.2.2.2.1 d.2.2.2.2.1 l, ())
theorem IK {c : Int} {ms : qf} {l : aZ} {lg : List Q0} {k : Nat} (hk : k < l.length) : lg ++ nz c ms (l.take (k + 1)) = (lg ++ nz c ms (l.take k)) ++ [(1, c, ms, l[k].1, l[k].2.1, l[k].2.2.1, l[k].2.2.2.1, [], ())] := by
 rw [List.take_succ_eq_append_getElem hk, List.append_assoc]
 congr 1
 unfold nz; rw [List.map_append]; rfl
theorem O4 (d : oC) (l : aZ) (hr : d.2.2.2.2.1.length ≤ 1048576) (hl : l.length ≤ 1048576) (hg : d.2.2.2.2.2.2.2.2.2.2.2.2.2.2.2.2.2.2.2.2.2.2.2.1.length ≤ 1048576) : ko d.1 d.2.1 d.2.2.1 d.2.2.2.1 d.2.2.2.2.1 d.2.2.2.2.2.1 d.2.2.2.2.2.2.1 d.2.2.2.2.2.2.2.1 d.2.2.2.2.2.2.2.2.1 d.2.2.2.2.2.2.2.2.2.1 d.2.2.2.2.2.2.2.2.2.2.1 d.2.2.2.2.2.2.2.2.2.2.2.1 d.2.2.2.2.2.2.2.2.2.2.2.2.1 d.2.2.2.2.2.2.2.2.2.2.2.2.2.1 d.2.2.2.2.2.2.2.2.2.2.2.2.2.2.1 d.2.2.2.2.2.2.2.2.2.2.2.2.2.2.2.1 d.2.2.2.2.2.2.2.2.2.2.2.2.2.2.2.2.1 d.2.2.2.2.2.2.2.2.2.2.2.2.2.2.2.2.2.1 d.2.2.2.2.2.2.2.2.2.2.2.2.2.2.2.2.2.2.1 d.2.2.2.2.2.2.2.2.2.2.2.2.2.2.2.2.2.2.2.1 d.2.2.2.2.2.2.2.2.2.2.2.2.2.2.2.2.2.2.2.2.1 d.2.2.2.2.2.2.2.2.2.2.2.2.2.2.2.2.2.2.2.2.2.1 d.2.2.2.2.2.2.2.2.2.2.2.2.2.2.2.2.2.2.2.2.2.2.1 d.2.2.2.2.2.2.2.2.2.2.2.2.2.2.2.2.2.2.2.2.2.2.2.1 l = some (xo d l) := by
 have hl := de (round := fI) (e := .inl (xo d l)) l.length (fun k => (d.1, d.2.1, d.2.2.1, d.2.2.2.1, d.2.2.2.2.1, d.2.2.2.2.2.1, d.2.2.2.2.2.2.1, d.2.2.2.2.2.2.2.1, d.2.2.2.2.2.2.2.2.1, d.2.2.2.2.2.2.2.2.2.1, d.2.2.2.2.2.2.2.2.2.2.1, d.2.2.2.2.2.2.2.2.2.2.2.1, d.2.2.2.2.2.2.2.2.2.2.2.2.1, d.2.2.2.2.2.2.2.2.2.2.2.2.2.1, d.2.2.2.2.2.2.2.2.2.2.2.2.2.2.1, d.2.2.2.2.2.2.2.2.2.2.2.2.2.2.2.1, d.2.2.2.2.2.2.2.2.2.2.2.2.2.2.2.2.1, d.2.2.2.2.2.2.2.2.2.2.2.2.2.2.2.2.2.1, d.2.2.2.2.2.2.2.2.2.2.2.2.2.2.2.2.2.2.1, d.2.2.2.2.2.2.2.2.2.2.2.2.2.2.2.2.2.2.2.1, d.2.2.2.2.2.2.2.2.2.2.2.2.2.2.2.2.2.2.2.2.1, d.2.2.2.2.2.2.2.2.2.2.2.2.2.2.2.2.2.2.2.2.2.1, d.2.2.2.2.2.2.2.2.2.2.2.2.2.2.2.2.2.2.2.2.2.2.1, d.2.2.2.2.2.2.2.2.2.2.2.2.2.2.2.2.2.2.2.2.2.2.2.1 ++ nz d.2.2.2.1 d.2.2.2.2.1 (l.take k), l, ((List.length l : Nat) : Int), ((k : Nat) : Int), ())) (by
   simp only [fI, m8, aD, cond_false, List.take_length, xo]) (fun k hk => by
   have hlen : (d.2.2.2.2.2.2.2.2.2.2.2.2.2.2.2.2.2.2.2.2.2.2.2.1 ++ nz d.2.2.2.1 d.2.2.2.2.1 (l.take k)).length ≤ 1048576 + 1048576 := by
     rw [List.length_append, Bn, List.length_take]; omega
   simp only [fI, m8, aw hk, ar, cond_true, aC, List.getElem?_eq_getElem hk, Option.bind_some, xT _ _ hr, bm (show ((d.2.2.2.2.2.2.2.2.2.2.2.2.2.2.2.2.2.2.2.2.2.2.2.1 ++ nz d.2.2.2.1 d.2.2.2.2.1 (l.take k)).length + 1) * 104 ≤ lim by unfold lim; omega), aF (show k < 4611686018427387904 by omega)]; rw [IK hk])
 have hl : aE fI (d.1, d.2.1, d.2.2.1, d.2.2.2.1, d.2.2.2.2.1, d.2.2.2.2.2.1, d.2.2.2.2.2.2.1, d.2.2.2.2.2.2.2.1, d.2.2.2.2.2.2.2.2.1, d.2.2.2.2.2.2.2.2.2.1, d.2.2.2.2.2.2.2.2.2.2.1, d.2.2.2.2.2.2.2.2.2.2.2.1, d.2.2.2.2.2.2.2.2.2.2.2.2.1, d.2.2.2.2.2.2.2.2.2.2.2.2.2.1, d.2.2.2.2.2.2.2.2.2.2.2.2.2.2.1, d.2.2.2.2.2.2.2.2.2.2.2.2.2.2.2.1, d.2.2.2.2.2.2.2.2.2.2.2.2.2.2.2.2.1, d.2.2.2.2.2.2.2.2.2.2.2.2.2.2.2.2.2.1, d.2.2.2.2.2.2.2.2.2.2.2.2.2.2.2.2.2.2.1, d.2.2.2.2.2.2.2.2.2.2.2.2.2.2.2.2.2.2.2.1, d.2.2.2.2.2.2.2.2.2.2.2.2.2.2.2.2.2.2.2.2.1, d.2.2.2.2.2.2.2.2.2.2.2.2.2.2.2.2.2.2.2.2.2.1, d.2.2.2.2.2.2.2.2.2.2.2.2.2.2.2.2.2.2.2.2.2.2.1, d.2.2.2.2.2.2.2.2.2.2.2.2.2.2.2.2.2.2.2.2.2.2.2.1 ++ [], l, ((List.length l : Nat) : Int), (0 : Int), ()) = _ := hl; rw [List.append_nil] at hl; unfold ko; rw [hl]; rfl
theorem O5 (d : oC) (m : oB) (l : aZ) (hr : m.2.2.1.length ≤ 1048576) (hl : l.length ≤ 1048576) (hg : d.2.2.2.2.2.2.2.2.2.2.2.2.2.2.2.2.2.2.2.2.2.2.2.1.length ≤ 1048576) : aE fu (d.1, d.2.1, d.2.2.1, d.2.2.2.1, d.2.2.2.2.1, d.2.2.2.2.2.1, d.2.2.2.2.2.2.1, d.2.2.2.2.2.2.2.1, d.2.2.2.2.2.2.2.2.1, d.2.2.2.2.2.2.2.2.2.1, d.2.2.2.2.2.2.2.2.2.2.1, d.2.2.2.2.2.2.2.2.2.2.2.1, d.2.2.2.2.2.2.2.2.2.2.2.2.1, d.2.2.2.2.2.2.2.2.2.2.2.2.2.1, d.2.2.2.2.2.2.2.2.2.2.2.2.2.2.1, d.2.2.2.2.2.2.2.2.2.2.2.2.2.2.2.1, d.2.2.2.2.2.2.2.2.2.2.2.2.2.2.2.2.1, d.2.2.2.2.2.2.2.2.2.2.2.2.2.2.2.2.2.1, d.2.2.2.2.2.2.2.2.2.2.2.2.2.2.2.2.2.2.1, d.2.2.2.2.2.2.2.2.2.2.2.2.2.2.2.2.2.2.2.1, d.2.2.2.2.2.2.2.2.2.2.2.2.2.2.2.2.2.2.2.2.1, d.2.2.2.2.2.2.2.2.2.2.2.2.2.2.2.2.2.2.2.2.2.1, d.2.2.2.2.2.2.2.2.2.2.2.2.2.2.2.2.2.2.2.2.2.2.1, d.2.2.2.2.2.2.2.2.2.2.2.2.2.2.2.2.2.2.2.2.2.2.2.1, m.1, m.2.1, m.2.2.1, m.2.2.2.1, m.2.2.2.2.1, m.2.2.2.2.2.1, m.2.2.2.2.2.2.1, m.2.2.2.2.2.2.2.1, m.2.2.2.2.2.2.2.2.1, m.2.2.2.2.2.2.2.2.2.1, m.2.2.2.2.2.2.2.2.2.2.1, m.2.2.2.2.2.2.2.2.2.2.2.1, m.2.2.2.2.2.2.2.2.2.2.2.2.1, m.2.2.2.2.2.2.2.2.2.2.2.2.2.1, m.2.2.2.2.2.2.2.2.2.2.2.2.2.2.1, m.2.2.2.2.2.2.2.2.2.2.2.2.2.2.2.1, l, (0 : Int), ()) = some (.inl (d.1, d.2.1, d.2.2.1, d.2.2.2.1, d.2.2.2.2.1, d.2.2.2.2.2.1, d.2.2.2.2.2.2.1, d.2.2.2.2.2.2.2.1, d.2.2.2.2.2.2.2.2.1, d.2.2.2.2.2.2.2.2.2.1, d.2.2.2.2.2.2.2.2.2.2.1, d.2.2.2.2.2.2.2.2.2.2.2.1, d.2.2.2.2.2.2.2.2.2.2.2.2.1, d.2.2.2.2.2.2.2.2.2.2.2.2.2.1, d.2.2.2.2.2.2.2.2.2.2.2.2.2.2.1, d.2.2.2.2.2.2.2.2.2.2.2.2.2.2.2.1, d.2.2.2.2.2.2.2.2.2.2.2.2.2.2.2.2.1, d.2.2.2.2.2.2.2.2.2.2.2.2.2.2.2.2.2.1, d.2.2.2.2.2.2.2.2.2.2.2.2.2.2.2.2.2.2.1, d.2.2.2.2.2.2.2.2.2.2.2.2.2.2.2.2.2.2.2.1, d.2.2.2.2.2.2.2.2.2.2.2.2.2.2.2.2.2.2.2.2.1, d.2.2.2.2.2.2.2.2.2.2.2.2.2.2.2.2.2.2.2.2.2.1, d.2.2.2.2.2.2.2.2.2.2.2.2.2.2.2.2.2.2.2.2.2.2.1, d.2.2.2.2.2.2.2.2.2.2.2.2.2.2.2.2.2.2.2.2.2.2.2.1 ++ nz m.2.1 m.2.2.1 l, ())) := by
 have hl := de (round := fu) (e := .inl (d.1, d.2.1, d.2.2.1, d.2.2.2.1, d.2.2.2.2.1, d.2.2.2.2.2.1, d.2.2.2.2.2.2.1, d.2.2.2.2.2.2.2.1, d.2.2.2.2.2.2.2.2.1, d.2.2.2.2.2.2.2.2.2.1, d.2.2.2.2.2.2.2.2.2.2.1, d.2.2.2.2.2.2.2.2.2.2.2.1, d.2.2.2.2.2.2.2.2.2.2.2.2.1, d.2.2.2.2.2.2.2.2.2.2.2.2.2.1, d.2.2.2.2.2.2.2.2.2.2.2.2.2.2.1, d.2.2.2.2.2.2.2.2.2.2.2.2.2.2.2.1, d.2.2.2.2.2.2.2.2.2.2.2.2.2.2.2.2.1, d.2.2.2.2.2.2.2.2.2.2.2.2.2.2.2.2.2.1, d.2.2.2.2.2.2.2.2.2.2.2.2.2.2.2.2.2.2.1, d.2.2.2.2.2.2.2.2.2.2.2.2.2.2.2.2.2.2.2.1, d.2.2.2.2.2.2.2.2.2.2.2.2.2.2.2.2.2.2.2.2.1, d.2.2.2.2.2.2.2.2.2.2.2.2.2.2.2.2.2.2.2.2.2.1, d.2.2.2.2.2.2.2.2.2.2.2.2.2.2.2.2.2.2.2.2.2.2.1, d.2.2.2.2.2.2.2.2.2.2.2.2.2.2.2.2.2.2.2.2.2.2.2.1 ++ nz m.2.1 m.2.2.1 l, ())) l.length (fun k => (d.1, d.2.1, d.2.2.1, d.2.2.2.1, d.2.2.2.2.1, d.2.2.2.2.2.1, d.2.2.2.2.2.2.1, d.2.2.2.2.2.2.2.1, d.2.2.2.2.2.2.2.2.1, d.2.2.2.2.2.2.2.2.2.1, d.2.2.2.2.2.2.2.2.2.2.1, d.2.2.2.2.2.2.2.2.2.2.2.1, d.2.2.2.2.2.2.2.2.2.2.2.2.1, d.2.2.2.2.2.2.2.2.2.2.2.2.2.1, d.2.2.2.2.2.2.2.2.2.2.2.2.2.2.1, d.2.2.2.2.2.2.2.2.2.2.2.2.2.2.2.1, d.2.2.2.2.2.2.2.2.2.2.2.2.2.2.2.2.1, d.2.2.2.2.2.2.2.2.2.2.2.2.2.2.2.2.2.1, d.2.2.2.2.2.2.2.2.2.2.2.2.2.2.2.2.2.2.1, d.2.2.2.2.2.2.2.2.2.2.2.2.2.2.2.2.2.2.2.1, d.2.2.2.2.2.2.2.2.2.2.2.2.2.2.2.2.2.2.2.2.1, d.2.2.2.2.2.2.2.2.2.2.2.2.2.2.2.2.2.2.2.2.2.1, d.2.2.2.2.2.2.2.2.2.2.2.2.2.2.2.2.2.2.2.2.2.2.1, d.2.2.2.2.2.2.2.2.2.2.2.2.2.2.2.2.2.2.2.2.2.2.2.1 ++ nz m.2.1 m.2.2.1 (l.take k), m.1, m.2.1, m.2.2.1, m.2.2.2.1, m.2.2.2.2.1, m.2.2.2.2.2.1, m.2.2.2.2.2.2.1, m.2.2.2.2.2.2.2.1, m.2.2.2.2.2.2.2.2.1, m.2.2.2.2.2.2.2.2.2.1, m.2.2.2.2.2.2.2.2.2.2.1, m.2.2.2.2.2.2.2.2.2.2.2.1, m.2.2.2.2.2.2.2.2.2.2.2.2.1, m.2.2.2.2.2.2.2.2.2.2.2.2.2.1, m.2.2.2.2.2.2.2.2.2.2.2.2.2.2.1, m.2.2.2.2.2.2.2.2.2.2.2.2.2.2.2.1, l, ((k : Nat) : Int), ())) (by
   simp only [fu, qB, aD, cond_false, List.take_length]) (fun k hk => by
   have hlen : (d.2.2.2.2.2.2.2.2.2.2.2.2.2.2.2.2.2.2.2.2.2.2.2.1 ++ nz m.2.1 m.2.2.1 (l.take k)).length ≤ 1048576 + 1048576 := by
     rw [List.length_append, Bn, List.length_take]; omega
   simp only [fu, qB, aw hk, ar, cond_true, aC, iq hk, List.getElem?_eq_getElem hk, Option.bind_some, EZ _ _ hr, bm (show ((d.2.2.2.2.2.2.2.2.2.2.2.2.2.2.2.2.2.2.2.2.2.2.2.1 ++ nz m.2.1 m.2.2.1 (l.take k)).length + 1) * 104 ≤ lim by unfold lim; omega), aF (show k < 4611686018427387904 by omega)]; rw [IK hk])
 have hl : aE fu (d.1, d.2.1, d.2.2.1, d.2.2.2.1, d.2.2.2.2.1, d.2.2.2.2.2.1, d.2.2.2.2.2.2.1, d.2.2.2.2.2.2.2.1, d.2.2.2.2.2.2.2.2.1, d.2.2.2.2.2.2.2.2.2.1, d.2.2.2.2.2.2.2.2.2.2.1, d.2.2.2.2.2.2.2.2.2.2.2.1, d.2.2.2.2.2.2.2.2.2.2.2.2.1, d.2.2.2.2.2.2.2.2.2.2.2.2.2.1, d.2.2.2.2.2.2.2.2.2.2.2.2.2.2.1, d.2.2.2.2.2.2.2.2.2.2.2.2.2.2.2.1, d.2.2.2.2.2.2.2.2.2.2.2.2.2.2.2.2.1, d.2.2.2.2.2.2.2.2.2.2.2.2.2.2.2.2.2.1, d.2.2.2.2.2.2.2.2.2.2.2.2.2.2.2.2.2.2.1, d.2.2.2.2.2.2.2.2.2.2.2.2.2.2.2.2.2.2.2.1, d.2.2.2.2.2.2.2.2.2.2.2.2.2.2.2.2.2.2.2.2.1, d.2.2.2.2.2.2.2.2.2.2.2.2.2.2.2.2.2.2.2.2.2.1, d.2.2.2.2.2.2.2.2.2.2.2.2.2.2.2.2.2.2.2.2.2.2.1, d.2.2.2.2.2.2.2.2.2.2.2.2.2.2.2.2.2.2.2.2.2.2.2.1 ++ [], m.1, m.2.1, m.2.2.1, m.2.2.2.1, m.2.2.2.2.1, m.2.2.2.2.2.1, m.2.2.2.2.2.2.1, m.2.2.2.2.2.2.2.1, m.2.2.2.2.2.2.2.2.1, m.2.2.2.2.2.2.2.2.2.1, m.2.2.2.2.2.2.2.2.2.2.1, m.2.2.2.2.2.2.2.2.2.2.2.1, m.2.2.2.2.2.2.2.2.2.2.2.2.1, m.2.2.2.2.2.2.2.2.2.2.2.2.2.1, m.2.2.2.2.2.2.2.2.2.2.2.2.2.2.1, m.2.2.2.2.2.2.2.2.2.2.2.2.2.2.2.1, l, (0 : Int), ()) = _ := hl; rw [List.append_nil] at hl; exact hl
noncomputable def wZ (d : oC) : oC := xo (kE d (bz (aU d)).1) (bz (aU d)).2
theorem Kg (d : oC) (h0 : pa (aU d) ≤ 1048576) (hg : d.2.2.2.2.2.2.2.2.2.2.2.2.2.2.2.2.2.2.2.2.2.2.2.1.length ≤ 1048576) : lR d.1 d.2.1 d.2.2.1 d.2.2.2.1 d.2.2.2.2.1 d.2.2.2.2.2.1 d.2.2.2.2.2.2.1 d.2.2.2.2.2.2.2.1 d.2.2.2.2.2.2.2.2.1 d.2.2.2.2.2.2.2.2.2.1 d.2.2.2.2.2.2.2.2.2.2.1 d.2.2.2.2.2.2.2.2.2.2.2.1 d.2.2.2.2.2.2.2.2.2.2.2.2.1 d.2.2.2.2.2.2.2.2.2.2.2.2.2.1 d.2.2.2.2.2.2.2.2.2.2.2.2.2.2.1 d.2.2.2.2.2.2.2.2.2.2.2.2.2.2.2.1 d.2.2.2.2.2.2.2.2.2.2.2.2.2.2.2.2.1 d.2.2.2.2.2.2.2.2.2.2.2.2.2.2.2.2.2.1 d.2.2.2.2.2.2.2.2.2.2.2.2.2.2.2.2.2.2.1 d.2.2.2.2.2.2.2.2.2.2.2.2.2.2.2.2.2.2.2.1 d.2.2.2.2.2.2.2.2.2.2.2.2.2.2.2.2.2.2.2.2.1 d.2.2.2.2.2.2.2.2.2.2.2.2.2.2.2.2.2.2.2.2.2.1 d.2.2.2.2.2.2.2.2.2.2.2.2.2.2.2.2.2.2.2.2.2.2.1 d.2.2.2.2.2.2.2.2.2.2.2.2.2.2.2.2.2.2.2.2.2.2.2.1 = some (wZ d) ∧ ie d.1 d.2.1 d.2.2.1 d.2.2.2.1 d.2.2.2.2.1 d.2.2.2.2.2.1 d.2.2.2.2.2.2.1 d.2.2.2.2.2.2.2.1 d.2.2.2.2.2.2.2.2.1 d.2.2.2.2.2.2.2.2.2.1 d.2.2.2.2.2.2.2.2.2.2.1 d.2.2.2.2.2.2.2.2.2.2.2.1 d.2.2.2.2.2.2.2.2.2.2.2.2.1 d.2.2.2.2.2.2.2.2.2.2.2.2.2.1 d.2.2.2.2.2.2.2.2.2.2.2.2.2.2.1 d.2.2.2.2.2.2.2.2.2.2.2.2.2.2.2.1 d.2.2.2.2.2.2.2.2.2.2.2.2.2.2.2.2.1 d.2.2.2.2.2.2.2.2.2.2.2.2.2.2.2.2.2.1 d.2.2.2.2.2.2.2.2.2.2.2.2.2.2.2.2.2.2.1 d.2.2.2.2.2.2.2.2.2.2.2.2.2.2.2.2.2.2.2.1 d.2.2.2.2.2.2.2.2.2.2.2.2.2.2.2.2.2.2.2.2.1 d.2.2.2.2.2.2.2.2.2.2.2.2.2.2.2.2.2.2.2.2.2.1 d.2.2.2.2.2.2.2.2.2.2.2.2.2.2.2.2.2.2.2.2.2.2.1 d.2.2.2.2.2.2.2.2.2.2.2.2.2.2.2.2.2.2.2.2.2.2.2.1 = some (wZ d) := by
 obtain ⟨s1, s2⟩ := M4 (aU d) h0; obtain ⟨z1, z2, _⟩ := FT (aU d) h0; have s1 : np d.2.2.1 d.2.2.2.1 d.2.2.2.2.1 d.2.2.2.2.2.1 d.2.2.2.2.2.2.1 d.2.2.2.2.2.2.2.1 d.2.2.2.2.2.2.2.2.1 d.2.2.2.2.2.2.2.2.2.1 d.2.2.2.2.2.2.2.2.2.2.1 d.2.2.2.2.2.2.2.2.2.2.2.1 d.2.2.2.2.2.2.2.2.2.2.2.2.1 d.2.2.2.2.2.2.2.2.2.2.2.2.2.1 d.2.2.2.2.2.2.2.2.2.2.2.2.2.2.1 d.2.2.2.2.2.2.2.2.2.2.2.2.2.2.2.1 d.2.2.2.2.2.2.2.2.2.2.2.2.2.2.2.2.1 d.2.2.2.2.2.2.2.2.2.2.2.2.2.2.2.2.2.1 = some ((bz (aU d)).1.1, (bz (aU d)).1.2.1, (bz (aU d)).1.2.2.1, (bz (aU d)).1.2.2.2.1, (bz (aU d)).1.2.2.2.2.1, (bz (aU d)).1.2.2.2.2.2.1, (bz (aU d)).1.2.2.2.2.2.2.1, (bz (aU d)).1.2.2.2.2.2.2.2.1, (bz (aU d)).1.2.2.2.2.2.2.2.2.1, (bz (aU d)).1.2.2.2.2.2.2.2.2.2.1, (bz (aU d)).1.2.2.2.2.2.2.2.2.2.2.1, (bz (aU d)).1.2.2.2.2.2.2.2.2.2.2.2.1, (bz (aU d)).1.2.2.2.2.2.2.2.2.2.2.2.2.1, (bz (aU d)).1.2.2.2.2.2.2.2.2.2.2.2.2.2.1, (bz (aU d)).1.2.2.2.2.2.2.2.2.2.2.2.2.2.2.1, (bz (aU d)).1.2.2.2.2.2.2.2.2.2.2.2.2.2.2.2.1, (bz (aU d)).2, ()) := s1; have s2 : oU d.2.2.1 d.2.2.2.1 d.2.2.2.2.1 d.2.2.2.2.2.1 d.2.2.2.2.2.2.1 d.2.2.2.2.2.2.2.1 d.2.2.2.2.2.2.2.2.1 d.2.2.2.2.2.2.2.2.2.1 d.2.2.2.2.2.2.2.2.2.2.1 d.2.2.2.2.2.2.2.2.2.2.2.1 d.2.2.2.2.2.2.2.2.2.2.2.2.1 d.2.2.2.2.2.2.2.2.2.2.2.2.2.1 d.2.2.2.2.2.2.2.2.2.2.2.2.2.2.1 d.2.2.2.2.2.2.2.2.2.2.2.2.2.2.2.1 d.2.2.2.2.2.2.2.2.2.2.2.2.2.2.2.2.1 d.2.2.2.2.2.2.2.2.2.2.2.2.2.2.2.2.2.1 = some ((bz (aU d)).1.1, (bz (aU d)).1.2.1, (bz (aU d)).1.2.2.1, (bz (aU d)).1.2.2.2.1, (bz (aU d)).1.2.2.2.2.1, (bz (aU d)).1.2.2.2.2.2.1, (bz (aU d)).1.2.2.2.2.2.2.1, (bz (aU d)).1.2.2.2.2.2.2.2.1, (bz (aU d)).1.2.2.2.2.2.2.2.2.1, (bz (aU d)).1.2.2.2.2.2.2.2.2.2.1, (bz (aU d)).1.2.2.2.2.2.2.2.2.2.2.1, (bz (aU d)).1.2.2.2.2.2.2.2.2.2.2.2.1, (bz (aU d)).1.2.2.2.2.2.2.2.2.2.2.2.2.1, (bz (aU d)).1.2.2.2.2.2.2.2.2.2.2.2.2.2.1, (bz (aU d)).1.2.2.2.2.2.2.2.2.2.2.2.2.2.2.1, (bz (aU d)).1.2.2.2.2.2.2.2.2.2.2.2.2.2.2.2.1, (bz (aU d)).2, ()) := s2; have hr : (bz (aU d)).1.2.2.1.length ≤ 1048576 := by
   have : (bz (aU d)).1.2.2.1.length ≤ pa (bz (aU d)).1 := by unfold pa; omega
   omega
 unfold wZ; generalize bz (aU d) = q at s1 s2 z2 hr; obtain ⟨m, l⟩ := q; have z2 : l.length ≤ 60 := z2; have e1 := O5 (kE d m) m l hr (by omega) hg; have e2 := O4 (kE d m) l hr (by omega) hg
 constructor
 · unfold lR; simp only [s1, Option.bind_some]; have e1 : aE fu (d.1, d.2.1, m.1, m.2.1, m.2.2.1, m.2.2.2.1, m.2.2.2.2.1, m.2.2.2.2.2.1, m.2.2.2.2.2.2.1, m.2.2.2.2.2.2.2.1, m.2.2.2.2.2.2.2.2.1, m.2.2.2.2.2.2.2.2.2.1, m.2.2.2.2.2.2.2.2.2.2.1, m.2.2.2.2.2.2.2.2.2.2.2.1, m.2.2.2.2.2.2.2.2.2.2.2.2.1, m.2.2.2.2.2.2.2.2.2.2.2.2.2.1, m.2.2.2.2.2.2.2.2.2.2.2.2.2.2.1, m.2.2.2.2.2.2.2.2.2.2.2.2.2.2.2.1, d.2.2.2.2.2.2.2.2.2.2.2.2.2.2.2.2.2.2.1, d.2.2.2.2.2.2.2.2.2.2.2.2.2.2.2.2.2.2.2.1, d.2.2.2.2.2.2.2.2.2.2.2.2.2.2.2.2.2.2.2.2.1, d.2.2.2.2.2.2.2.2.2.2.2.2.2.2.2.2.2.2.2.2.2.1, d.2.2.2.2.2.2.2.2.2.2.2.2.2.2.2.2.2.2.2.2.2.2.1, d.2.2.2.2.2.2.2.2.2.2.2.2.2.2.2.2.2.2.2.2.2.2.2.1, m.1, m.2.1, m.2.2.1, m.2.2.2.1, m.2.2.2.2.1, m.2.2.2.2.2.1, m.2.2.2.2.2.2.1, m.2.2.2.2.2.2.2.1, m.2.2.2.2.2.2.2.2.1, m.2.2.2.2.2.2.2.2.2.1, m.2.2.2.2.2.2.2.2.2.2.1, m.2.2.2.2.2.2.2.2.2.2.2.1, m.2.2.2.2.2.2.2.2.2.2.2.2.1, m.2.2.2.2.2.2.2.2.2.2.2.2.2.1, m.2.2.2.2.2.2.2.2.2.2.2.2.2.2.1, m.2.2.2.2.2.2.2.2.2.2.2.2.2.2.2.1, l, (0 : Int), ()) = _ := e1; rw [e1]; rfl
 · unfold ie; simp only [s2, Option.bind_some]; have e2 : ko d.1 d.2.1 m.1 m.2.1 m.2.2.1 m.2.2.2.1 m.2.2.2.2.1 m.2.2.2.2.2.1 m.2.2.2.2.2.2.1 m.2.2.2.2.2.2.2.1 m.2.2.2.2.2.2.2.2.1 m.2.2.2.2.2.2.2.2.2.1 m.2.2.2.2.2.2.2.2.2.2.1 m.2.2.2.2.2.2.2.2.2.2.2.1 m.2.2.2.2.2.2.2.2.2.2.2.2.1 m.2.2.2.2.2.2.2.2.2.2.2.2.2.1 m.2.2.2.2.2.2.2.2.2.2.2.2.2.2.1 m.2.2.2.2.2.2.2.2.2.2.2.2.2.2.2.1 d.2.2.2.2.2.2.2.2.2.2.2.2.2.2.2.2.2.2.1 d.2.2.2.2.2.2.2.2.2.2.2.2.2.2.2.2.2.2.2.1 d.2.2.2.2.2.2.2.2.2.2.2.2.2.2.2.2.2.2.2.2.1 d.2.2.2.2.2.2.2.2.2.2.2.2.2.2.2.2.2.2.2.2.2.1 d.2.2.2.2.2.2.2.2.2.2.2.2.2.2.2.2.2.2.2.2.2.2.1 d.2.2.2.2.2.2.2.2.2.2.2.2.2.2.2.2.2.2.2.2.2.2.2.1 l = _ := e2; rw [e2]; rfl
theorem Kh (d : oC) (h0 : pa (aU d) ≤ 1048576) : tU (wZ d) ≤ tU d + 60 + 60 * ((aU d).2.2.1.length + wl dJ (aU d).2.2.1) + 3600 := by
 obtain ⟨k, v, h1, _⟩ := GR (aU d) h0; obtain ⟨z1, z2, z3⟩ := FT (aU d) h0; have hr : (bz (aU d)).1.2.1 = (aU d).2.1 ∧ (bz (aU d)).1.2.2.1 = (aU d).2.2.1 := by rw [h1]; exact ⟨rfl, rfl⟩
 unfold wZ; generalize bz (aU d) = q at z1 z2 z3 hr; obtain ⟨m, l⟩ := q; have e : tU (xo (kE d m) l) = pa m + (List.length d.2.2.2.2.2.2.2.2.2.2.2.2.2.2.2.2.2.2.2.2.2.1 + wl dJ d.2.2.2.2.2.2.2.2.2.2.2.2.2.2.2.2.2.2.2.2.2.1) + (List.length d.2.2.2.2.2.2.2.2.2.2.2.2.2.2.2.2.2.2.2.2.2.2.1 + wl aI d.2.2.2.2.2.2.2.2.2.2.2.2.2.2.2.2.2.2.2.2.2.2.1) + (List.length (d.2.2.2.2.2.2.2.2.2.2.2.2.2.2.2.2.2.2.2.2.2.2.2.1 ++ nz m.2.1 m.2.2.1 l) + wl aA (d.2.2.2.2.2.2.2.2.2.2.2.2.2.2.2.2.2.2.2.2.2.2.2.1 ++ nz m.2.1 m.2.2.1 l)) := rfl; have e2 : tU d = pa (aU d) + (List.length d.2.2.2.2.2.2.2.2.2.2.2.2.2.2.2.2.2.2.2.2.2.1 + wl dJ d.2.2.2.2.2.2.2.2.2.2.2.2.2.2.2.2.2.2.2.2.2.1) + (List.length d.2.2.2.2.2.2.2.2.2.2.2.2.2.2.2.2.2.2.2.2.2.2.1 + wl aI d.2.2.2.2.2.2.2.2.2.2.2.2.2.2.2.2.2.2.2.2.2.2.1) + (List.length d.2.2.2.2.2.2.2.2.2.2.2.2.2.2.2.2.2.2.2.2.2.2.2.1 + wl aA d.2.2.2.2.2.2.2.2.2.2.2.2.2.2.2.2.2.2.2.2.2.2.2.1) := rfl; have z1 : pa m = pa (aU d) := z1; have hr2 : m.2.2.1 = (aU d).2.2.1 := hr.2; have z2 : l.length ≤ 60 := z2; have z3 : wl bt l ≤ 3600 := z3; show tU (xo (kE d m) l) ≤ _; rw [e, e2, Gp, Le, List.length_append, Bn, hr2, z1]; have := Nat.mul_le_mul_right ((aU d).2.2.1.length + wl dJ (aU d).2.2.1) z2; omega
noncomputable def sW (d : oC) : Bool := Bj d && (!d.2.1 && (decide (0 < d.2.2.2.2.2.2.2.2.2.2.2.2.2.2.2.2.2.2.2.1) && decide (d.2.2.2.2.2.2.2.2.2.2.2.2.2.2.2.2.2.2.2.2.1 = 0)))
theorem En (d : oC) (h : tU d ≤ 1048576) : (!decide (d.2.2.2.1 = 0) && decide (d.2.2.2.2.2.2.2.2.2.2.2.2.2.2.2.2.2.2.2.2.1 = 0) && Bj d) = sW d := by
 unfold sW
 cases hb : Bj d
 · simp
 have q := (Ke d h).2.2.1 hb
 by_cases ho : d.2.2.2.1 = 0
 · have : ¬ 0 < d.2.2.2.2.2.2.2.2.2.2.2.2.2.2.2.2.2.2.2.1 := by have := q.old.1; omega
   rw [ae ho, af this]
   cases d.2.1 <;> rfl
 · have hm : Bi (aU d) := by
     rcases q.VG with g | ⟨g, _⟩
     · exact absurd g.2.1 ho
     · exact g
   have h1 : 1 ≤ d.2.2.2.1 := hm.ring.1.1; have hd : d.2.1 = false := by
     cases hd : d.2.1
     · rfl
     · exact absurd (q.dead hd).1.2.1 ho
   have : 0 < d.2.2.2.2.2.2.2.2.2.2.2.2.2.2.2.2.2.2.2.1 := by have := q.old.1; omega
   rw [af ho, ae this, hd]
   cases decide (d.2.2.2.2.2.2.2.2.2.2.2.2.2.2.2.2.2.2.2.2.1 = 0) <;> rfl
def O6 {A B C : Type} (P : A → Prop) : Sum A B → Sum A C → Prop
 | .inl a, .inl b => a = b ∧ P a
 | _, _ => False
theorem GS (dH : Int) (dI : Int) (bE : Int) (dn : Int) (dx : Int) (cS : List (Int × Unit)) (cO : Int) (dh : List (Int × Unit)) (aK : List (ByteArray × Unit)) (h0 : List.length cS ≤ 1048576) : ∃ o0 o1 o2 o3 o4 o5 o6, pN dH dI bE dn dx cS cO dh aK = some (o0, o1, o2, o3, o4, o5, o6, ()) ∧ lx dH dI bE dn dx cS cO dh aK = some (o0, o1, o2, o3, o4, o5, o6, ()) ∧ o5 = cS ∧ (List.length o6 + wl bt o6) ≤ 1048576 := by
 obtain ⟨b, k1, k2, k3⟩ := sv dH dI bE dn dx cS (by omega); obtain ⟨c1, c2⟩ := oh dH dI bE dn dx cS (by omega); have hm : (if (3 : Int) < ((List.length aK : Nat) : Int) then (3 : Int) else ((List.length aK : Nat) : Int)) = ((min 3 aK.length : Nat) : Int) := by split <;> omega
 unfold pN lx; simp only [k1, k2, c1, c2, nt, nu, Option.bind_some]
 cases b
 · cases (decide (1 ≤ cO) && decide (cO ≤ 5))
   · exact ⟨_, _, _, _, _, cS, [], rfl, rfl, rfl, by decide⟩
   · exact ⟨_, _, _, _, _, cS, [], rfl, rfl, rfl, by decide⟩
 cases (decide (1 ≤ cO) && decide (cO ≤ 5))
 · exact ⟨_, _, _, _, _, cS, [], rfl, rfl, rfl, by decide⟩
 obtain ⟨z1, z2, z3, z4, z5, z6⟩ := k3 rfl; have R9 : (aK.take (min 3 aK.length)).length = min 3 aK.length := by simp
 simp only [Bool.not_true, cond_false, hm, aC, ar, cond_true, List.drop_zero, R9, ae (show ((min 3 aK.length : Nat) : Int) ≤ ((List.length aK : Nat) : Int) by omega)]; obtain ⟨e, f, g1, g2, g3⟩ : ∃ e f, aE jR (cO, dh, aK, dH, dI, bE, dn, dx, cS, (0 : Int), (0 : Int), (0 : Int), (0 : Int), (0 : Int), [], dH, dI, bE, dn, dx, cS, [], (0 : Int), ()) = some e ∧
     aE dV (cO, dh, dH, dI, bE, dn, dx, cS, (0 : Int), (0 : Int), (0 : Int), (0 : Int), (0 : Int), [], dH, dI, bE, dn, dx, cS, [], aK.take (min 3 aK.length), ((min 3 aK.length : Nat) : Int), (0 : Int), ()) = some f ∧
     O6 (fun v => ∃ (q : Int) (l : aZ), v = (dH, dI, bE, dn, dx, cS, (0 : Int), (0 : Int), (0 : Int), (0 : Int), (0 : Int), [], dH, dI, q, dn, dx, cS, l, ()) ∧ l.length ≤ 3 ∧ wl bt l ≤ 180) e f := by
   refine nM 3 (fun k x y => ∃ l : aZ, x = (cO, dh, aK, dH, dI, bE, dn, dx, cS, (0 : Int), (0 : Int), (0 : Int), (0 : Int), (0 : Int), [], dH, dI, bE + ((k : Nat) : Int), dn, dx, cS, l, ((k : Nat) : Int), ()) ∧
     y = (cO, dh, dH, dI, bE, dn, dx, cS, (0 : Int), (0 : Int), (0 : Int), (0 : Int), (0 : Int), [], dH, dI, bE + ((k : Nat) : Int), dn, dx, cS, l, aK.take (min 3 aK.length), ((min 3 aK.length : Nat) : Int), ((k : Nat) : Int), ()) ∧ l.length = k ∧ wl bt l ≤ 60 * k) _ ?_ ⟨[], by rw [show bE + ((0 : Nat) : Int) = bE by omega]; rfl, by rw [show bE + ((0 : Nat) : Int) = bE by omega]; rfl, rfl, Nat.le_refl _⟩
   rintro k x y hk ⟨l, rfl, rfl, q1, q2⟩
   have stop : ∀ {A B : Type} (u : Sum _ A) (v : Sum _ B), u = .inl (dH, dI, bE, dn, dx, cS, (0 : Int), (0 : Int), (0 : Int), (0 : Int), (0 : Int), ([] : List (Int × Unit)), dH, dI, bE + ((k : Nat) : Int), dn, dx, cS, l, ()) → v = .inl (dH, dI, bE, dn, dx, cS, (0 : Int), (0 : Int), (0 : Int), (0 : Int), (0 : Int), ([] : List (Int × Unit)), dH, dI, bE + ((k : Nat) : Int), dn, dx, cS, l, ()) →
       O6 (fun v => ∃ (q : Int) (l : aZ), v = (dH, dI, bE, dn, dx, cS, (0 : Int), (0 : Int), (0 : Int), (0 : Int), (0 : Int), ([] : List (Int × Unit)), dH, dI, q, dn, dx, cS, l, ()) ∧ l.length ≤ 3 ∧ wl bt l ≤ 180) u v := by
     intro A B u v e1 e2; subst e1 e2; exact ⟨rfl, _, l, rfl, by omega, by omega⟩
   by_cases h1 : k < aK.length
   · by_cases h4 : k < 3
     · have VH : k < min 3 aK.length := by omega
       have Ce : (aK.take (min 3 aK.length))[k]? = some aK[k] := by rw [List.getElem?_take_of_lt VH]; exact List.getElem?_eq_getElem h1
       have e1 : IntKind.i64.wrap ((bE + ((k : Nat) : Int)) + (1 : Int)) = bE + ((k + 1 : Nat) : Int) := by rw [dR] <;> omega
       simp only [jR, n4, dV, gd, aw h1, aw VH, ae (show ((k : Nat) : Int) < (3 : Int) by omega), ar, cond_true, aC, List.getElem?_eq_getElem h1, Ce, Option.bind_some, e1, bm (show (l.length + 1) * 40 ≤ lim by unfold lim; omega), aF (show k < 4611686018427387904 by omega)]
       by_cases h5 : bE + ((k : Nat) : Int) < 60
       · rw [ae h5, af (show ¬ (60 : Int) ≤ bE + ((k : Nat) : Int) by omega)]
         by_cases h6 : ((ByteArray.size aK[k].1 : Nat) : Int) ≤ 60
         · rw [ae h6, af (show ¬ (60 : Int) < ((ByteArray.size aK[k].1 : Nat) : Int) by omega)]; have add : ∀ lv : Int, wl bt (l ++ [(bE + ((k + 1 : Nat) : Int), cO, lv, aK[k].1, ())]) ≤ 60 * (k + 1) := by
             intro lv; rw [Gp]; have : wl bt [(bE + ((k + 1 : Nat) : Int), cO, lv, aK[k].1, ())] = ByteArray.size aK[k].1 := rfl; omega
           by_cases h7 : k < dh.length
           · rw [aw h7]; simp only [cond_true, cond_false, List.getElem?_eq_getElem h7, Option.bind_some]
             cases decide (dh[k].1 = 2)
             · exact .inr ⟨h4, _, _, rfl, rfl, _, rfl, rfl, by simp [q1], add 1⟩
             · exact .inr ⟨h4, _, _, rfl, rfl, _, rfl, rfl, by simp [q1], add 2⟩
           · rw [af (show ¬ ((k : Nat) : Int) < ((List.length dh : Nat) : Int) by omega)]; exact .inr ⟨h4, _, _, rfl, rfl, _, rfl, rfl, by simp [q1], add 1⟩
         · rw [af h6, ae (show (60 : Int) < ((ByteArray.size aK[k].1 : Nat) : Int) by omega)]; exact .inl ⟨_, _, rfl, rfl, stop _ _ rfl rfl⟩
       · rw [af h5, ae (show (60 : Int) ≤ bE + ((k : Nat) : Int) by omega)]; exact .inl ⟨_, _, rfl, rfl, stop _ _ rfl rfl⟩
     · have Rh : k = 3 := by omega
       refine .inl ⟨_, _, ?_, ?_, stop _ _ rfl rfl⟩
       · simp only [jR, n4, aw h1, af (show ¬ ((k : Nat) : Int) < (3 : Int) by omega), cond_true, cond_false]
       · simp only [dV, gd, af (show ¬ ((k : Nat) : Int) < ((min 3 aK.length : Nat) : Int) by omega), cond_false]
   · refine .inl ⟨_, _, ?_, ?_, stop _ _ rfl rfl⟩
     · simp only [jR, n4, af (show ¬ ((k : Nat) : Int) < ((List.length aK : Nat) : Int) by omega), cond_false]
     · simp only [dV, gd, af (show ¬ ((k : Nat) : Int) < ((min 3 aK.length : Nat) : Int) by omega), cond_false]
 rw [g1, g2]
 cases e with
 | inr e => exact g3.elim
 | inl e => cases f with
   | inr f => exact g3.elim
   | inl f =>
     obtain ⟨rfl, q, l, rfl, q1, q2⟩ := g3; simp only [ew]
     cases decide (dn = bE)
     · exact ⟨_, _, _, _, _, cS, l, rfl, rfl, rfl, by omega⟩
     · cases decide (dx = 0)
       · exact ⟨_, _, _, _, _, cS, l, rfl, rfl, rfl, by omega⟩
       · exact ⟨_, _, _, _, _, cS, l, rfl, rfl, rfl, by omega⟩
def CB (c2 from_ : Int) (level : List (Int × Unit)) (texts : List (ByteArray × Unit)) (j : Nat) : jB :=
 (c2 + ((j + 1 : Nat) : Int), from_, (bif decide (j < level.length) && decide ((level.getD j ((0 : Int), ())).1 = 2) then 2 else 1), (texts.getD j (ByteArray.empty, ())).1, ())
def gi (c2 from_ : Int) (level : List (Int × Unit)) (texts : List (ByteArray × Unit)) (m : Nat) : aZ := (List.range m).map (CB c2 from_ level texts)
theorem vG (c2 from_ : Int) (level : List (Int × Unit)) (texts : List (ByteArray × Unit)) (m : Nat) : (gi c2 from_ level texts m).length = m := by simp [gi]
theorem E0 (c2 from_ : Int) (level : List (Int × Unit)) (texts : List (ByteArray × Unit)) (m : Nat) : gi c2 from_ level texts (m + 1) = gi c2 from_ level texts m ++ [CB c2 from_ level texts m] := by
 unfold gi; rw [List.range_succ, List.map_append]; rfl
def CC (c2 : Int) (texts : List (ByteArray × Unit)) (m : Nat) : Prop := m = min 3 texts.length ∨ 60 ≤ c2 + ((m : Nat) : Int) ∨ ∃ h : m < texts.length, 60 < ByteArray.size texts[m].1
theorem Ki (dH : Int) (dI : Int) (bE : Int) (dn : Int) (dx : Int) (cS : List (Int × Unit)) (cO : Int) (dh : List (Int × Unit)) (aK : List (ByteArray × Unit)) (h0 : List.length cS ≤ 1048576) (h3 : List.length aK ≤ 1048576) (hd : 1 ≤ cO ∧ cO ≤ 5) (ht : VC dH dI bE dn dx cS) :
   ∃ m t3, lx dH dI bE dn dx cS cO dh aK = some (dH, dI, bE + ((m : Nat) : Int), t3, dx, cS, gi bE cO dh aK m, ()) ∧ m ≤ 3 ∧ m ≤ aK.length ∧ bE + ((m : Nat) : Int) ≤ 60 ∧ (t3 = dn ∨ t3 = bE + ((m : Nat) : Int)) ∧ CC bE aK m ∧ t3 = (if dn = bE ∧ dx = 0 then bE + ((m : Nat) : Int) else dn) := by
 obtain ⟨b, _, k2, k3⟩ := FI dH dI bE dn dx cS h0; have hb := k3.2 ht; subst hb; obtain ⟨_, c2⟩ := oh dH dI bE dn dx cS h0; obtain ⟨_, _, z2, z3, _⟩ := ht; have hm : (if (3 : Int) < ((List.length aK : Nat) : Int) then (3 : Int) else ((List.length aK : Nat) : Int)) = ((min 3 aK.length : Nat) : Int) := by split <;> omega
 have R9 : (aK.take (min 3 aK.length)).length = min 3 aK.length := by simp
 unfold lx; simp only [k2, c2, nu, ae hd.1, ae hd.2, Bool.and_self, Option.bind_some, Bool.not_true, cond_false, hm, aC, ar, cond_true, List.drop_zero, R9, ae (show ((min 3 aK.length : Nat) : Int) ≤ ((List.length aK : Nat) : Int) by omega)]; have fin : ∀ (k : Nat), ∃ v : Int × Int × Int × Int × Int × (List (Int × Unit)) × Int × Int × Int × Int × Int × (List (Int × Unit)) × Int × Int × Int × Int × Int × (List (Int × Unit)) × aZ × Unit, v = (dH, dI, bE, dn, dx, cS, (0 : Int), (0 : Int), (0 : Int), (0 : Int), (0 : Int), [], dH, dI, bE + ((k : Nat) : Int), dn, dx, cS, gi bE cO dh aK k, ()) := fun k => ⟨_, rfl⟩
 obtain ⟨e, g1, m, g2, g3, g4, g5, g6⟩ : ∃ e, aE dV (cO, dh, dH, dI, bE, dn, dx, cS, (0 : Int), (0 : Int), (0 : Int), (0 : Int), (0 : Int), [], dH, dI, bE, dn, dx, cS, [], aK.take (min 3 aK.length), ((min 3 aK.length : Nat) : Int), (0 : Int), ()) = some e ∧
     ∃ m : Nat, e = .inl (dH, dI, bE, dn, dx, cS, (0 : Int), (0 : Int), (0 : Int), (0 : Int), (0 : Int), [], dH, dI, bE + ((m : Nat) : Int), dn, dx, cS, gi bE cO dh aK m, ()) ∧ m ≤ 3 ∧ m ≤ aK.length ∧ bE + ((m : Nat) : Int) ≤ 60 ∧ CC bE aK m := by
   refine eY (min 3 aK.length) (fun k x => x = (cO, dh, dH, dI, bE, dn, dx, cS, (0 : Int), (0 : Int), (0 : Int), (0 : Int), (0 : Int), [], dH, dI, bE + ((k : Nat) : Int), dn, dx, cS, gi bE cO dh aK k, aK.take (min 3 aK.length), ((min 3 aK.length : Nat) : Int), ((k : Nat) : Int), ()) ∧ bE + ((k : Nat) : Int) ≤ 60) _ ?_ ?_ ⟨by rw [show bE + ((0 : Nat) : Int) = bE by omega]; rfl, by omega⟩
   · rintro x ⟨rfl, q⟩
     exact ⟨_, by simp only [dV, gd, aD, cond_false], _, rfl, by omega, by omega, q, .inl rfl⟩
   · rintro k x VH ⟨rfl, q⟩
     have h1 : k < aK.length := by omega
     have Ce : (aK.take (min 3 aK.length))[k]? = some aK[k] := by rw [List.getElem?_take_of_lt VH]; exact List.getElem?_eq_getElem h1
     have hgt : (aK.getD k (ByteArray.empty, ())).1 = aK[k].1 := by rw [List.getD_eq_getElem?_getD, List.getElem?_eq_getElem h1, Option.getD_some]
     have stop : CC bE aK k → ∃ m : Nat, (.inl (dH, dI, bE, dn, dx, cS, (0 : Int), (0 : Int), (0 : Int), (0 : Int), (0 : Int), [], dH, dI, bE + ((k : Nat) : Int), dn, dx, cS, gi bE cO dh aK k, ()) : Sum _ Unit) = .inl (dH, dI, bE, dn, dx, cS, (0 : Int), (0 : Int), (0 : Int), (0 : Int), (0 : Int), ([] : List (Int × Unit)), dH, dI, bE + ((m : Nat) : Int), dn, dx, cS, gi bE cO dh aK m, ()) ∧ m ≤ 3 ∧ m ≤ aK.length ∧ bE + ((m : Nat) : Int) ≤ 60 ∧ CC bE aK m :=
       fun hq => ⟨k, rfl, by omega, by omega, q, hq⟩
     by_cases h5 : (60 : Int) ≤ bE + ((k : Nat) : Int)
     · refine .inl ⟨_, ?_, stop (.inr (.inl h5))⟩; simp only [dV, gd, aw VH, ar, cond_true, aC, Ce, Option.bind_some, ae h5]
     have e1 : IntKind.i64.wrap ((bE + ((k : Nat) : Int)) + (1 : Int)) = bE + ((k + 1 : Nat) : Int) := by rw [dR] <;> omega
     by_cases h6 : (60 : Int) < ((ByteArray.size aK[k].1 : Nat) : Int)
     · refine .inl ⟨_, ?_, stop (.inr (.inr ⟨h1, by omega⟩))⟩; simp only [dV, gd, aw VH, ar, cond_true, cond_false, aC, Ce, Option.bind_some, af h5, ae h6]
     refine .inr ⟨_, ?_, rfl, by omega⟩; have hlen := vG bE cO dh aK k; simp only [dV, gd, aw VH, ar, cond_true, cond_false, aC, Ce, Option.bind_some, af h5, af h6, e1, hlen, bm (show (k + 1) * 40 ≤ lim by unfold lim; omega), aF (show k < 4611686018427387904 by omega)]; rw [E0]; unfold CB; rw [hgt]
     by_cases h7 : k < dh.length
     · have hgl : dh.getD k ((0 : Int), ()) = dh[k] := by rw [List.getD_eq_getElem?_getD, List.getElem?_eq_getElem h7, Option.getD_some]
       rw [aw h7, ae h7, hgl]; simp only [cond_true, List.getElem?_eq_getElem h7, Option.bind_some, Bool.true_and]
       cases decide (dh[k].1 = 2) <;> rfl
     · rw [af (show ¬ ((k : Nat) : Int) < ((List.length dh : Nat) : Int) by omega), af h7]; rfl
 rw [g1]; subst g2; simp only [ew]
 by_cases w1 : dn = bE
 · rw [ae w1]
   by_cases w2 : dx = 0
   · rw [ae w2]; exact ⟨m, _, rfl, g3, g4, g5, .inr rfl, g6, by rw [if_pos ⟨w1, w2⟩]⟩
   · rw [af w2]; exact ⟨m, _, rfl, g3, g4, g5, .inl rfl, g6, by rw [if_neg (fun h => w2 h.2)]⟩
 · rw [af w1]; exact ⟨m, _, rfl, g3, g4, g5, .inl rfl, g6, by rw [if_neg (fun h => w1 h.1)]⟩
def B8 (c2 c3 c4 d a : Int) : Int := if a < c3 then a else if c4 = d then (if c2 < a then c2 else a) else c3
def B9 (c2 c3 c4 d a : Int) : Int := if a < c3 then d else if c4 = d then (if c2 ≤ a then 0 else c4) else c4
theorem O7 (c0 c1 c2 c3 c4 : Int) (xs : List (Int × Unit)) (d a : Int) (h : xs.length ≤ 1048576) {b : Bool} (hb : dM c0 c1 c2 c3 c4 xs = some (b, ())) :
   ∃ t3 t4, tL c0 c1 c2 c3 c4 xs d a = some (c0, c1, c2, t3, t4, xs, ()) ∧ tP c0 c1 c2 c3 c4 xs d a = some (c0, c1, c2, t3, t4, xs, ()) ∧
     (b = false ∨ d < 1 ∨ 5 < d ∨ a < 0 → t3 = c3 ∧ t4 = c4) ∧ (b = true → 1 ≤ d → d ≤ 5 → 0 ≤ a → 0 ≤ c3 → c3 ≤ c2 → 0 ≤ t3 ∧ t3 ≤ c2 ∧ t3 ≤ a ∧ (t3 ≤ c3 ∨ c4 = d) ∧ (t4 = c4 ∨ t4 = d ∨ (t4 = 0 ∧ c4 = d))) ∧ (b = true → 1 ≤ d → d ≤ 5 → 0 ≤ a → t3 = B8 c2 c3 c4 d a ∧ t4 = B9 c2 c3 c4 d a) := by
 obtain ⟨b', h1, h2, _⟩ := sv c0 c1 c2 c3 c4 xs h; rw [hb] at h1; obtain rfl : b = b' := by injection h1 with h1; injection h1
 obtain ⟨h3, h4⟩ := oh c0 c1 c2 c3 c4 xs h; unfold tL tP; simp only [Option.bind_some, hb, h2, h3, h4, nt, nu]
 cases b
 · have : ∀ t3 t4 : Int, t3 = c3 → t4 = c4 → (false = false ∨ d < 1 ∨ 5 < d ∨ a < 0 → t3 = c3 ∧ t4 = c4) ∧ (false = true → 1 ≤ d → d ≤ 5 → 0 ≤ a → 0 ≤ c3 → c3 ≤ c2 → 0 ≤ t3 ∧ t3 ≤ c2 ∧ t3 ≤ a ∧ (t3 ≤ c3 ∨ c4 = d) ∧ (t4 = c4 ∨ t4 = d ∨ (t4 = 0 ∧ c4 = d))) ∧ (false = true → 1 ≤ d → d ≤ 5 → 0 ≤ a → t3 = B8 c2 c3 c4 d a ∧ t4 = B9 c2 c3 c4 d a) :=
     fun t3 t4 e1 e2 => ⟨fun _ => ⟨e1, e2⟩, (fun h => by cases h), (fun h => by cases h)⟩
   cases (decide (1 ≤ d) && decide (d ≤ 5))
   · exact ⟨_, _, rfl, rfl, this _ _ rfl rfl⟩
   cases decide (a < 0)
   · exact ⟨_, _, rfl, rfl, this _ _ rfl rfl⟩
   · exact ⟨_, _, rfl, rfl, this _ _ rfl rfl⟩
 by_cases hd : 1 ≤ d ∧ d ≤ 5
 · rw [ae hd.1, ae hd.2]
   by_cases ha : a < 0
   · rw [ae ha]; exact ⟨_, _, rfl, rfl, (fun _ => ⟨rfl, rfl⟩), (fun _ _ _ h => by omega), (fun _ _ _ h => by omega)⟩
   rw [af ha]; have no : ∀ {A : Prop}, (true = false ∨ d < 1 ∨ 5 < d ∨ a < 0) → A := by
     rintro A (h | h | h | h)
     · cases h
     · omega
     · omega
     · omega
   by_cases h5 : a < c3
   · rw [ae h5]; exact ⟨_, _, rfl, rfl, no, (fun _ _ _ _ _ _ => ⟨by omega, by omega, by omega, .inl (by omega), .inr (.inl rfl)⟩), fun _ _ _ _ => by unfold B8 B9; rw [if_pos h5, if_pos h5]; exact ⟨rfl, rfl⟩⟩
   rw [af h5]
   by_cases h6 : c4 = d
   · rw [ae h6]
     by_cases h7 : c2 < a
     · rw [ae h7, if_pos h7, ae (show c2 = c2 from rfl)]; exact ⟨_, _, rfl, rfl, no, (fun _ _ _ _ _ _ => ⟨by omega, by omega, by omega, .inr h6, .inr (.inr ⟨rfl, h6⟩)⟩), fun _ _ _ _ => by unfold B8 B9; rw [if_neg h5, if_neg h5, if_pos h6, if_pos h6, if_pos h7, if_pos (by omega)]; exact ⟨rfl, rfl⟩⟩
     · rw [af h7, if_neg h7]
       by_cases h8 : a = c2
       · rw [ae h8]; exact ⟨_, _, rfl, rfl, no, (fun _ _ _ _ _ _ => ⟨by omega, by omega, by omega, .inr h6, .inr (.inr ⟨rfl, h6⟩)⟩), fun _ _ _ _ => by unfold B8 B9; rw [if_neg h5, if_neg h5, if_pos h6, if_pos h6, if_neg h7, if_pos (by omega)]; exact ⟨rfl, rfl⟩⟩
       · rw [af h8]; exact ⟨_, _, rfl, rfl, no, (fun _ _ _ _ _ _ => ⟨by omega, by omega, by omega, .inr h6, .inl rfl⟩), fun _ _ _ _ => by unfold B8 B9; rw [if_neg h5, if_neg h5, if_pos h6, if_pos h6, if_neg h7, if_neg (by omega)]; exact ⟨rfl, rfl⟩⟩
   · rw [af h6]; exact ⟨_, _, rfl, rfl, no, (fun _ _ _ _ _ _ => ⟨by omega, by omega, by omega, .inl (by omega), .inl rfl⟩), fun _ _ _ _ => by unfold B8 B9; rw [if_neg h5, if_neg h5, if_neg h6, if_neg h6]; exact ⟨rfl, rfl⟩⟩
 · have e : (decide (1 ≤ d) && decide (d ≤ 5)) = false := by
     cases hq : (decide (1 ≤ d) && decide (d ≤ 5))
     · rfl
     · rw [Bool.and_eq_true, decide_eq_true_eq, decide_eq_true_eq] at hq; exact absurd hq hd
   rw [e]; exact ⟨_, _, rfl, rfl, (fun _ => ⟨rfl, rfl⟩), (fun _ h1 h2 => absurd ⟨h1, h2⟩ hd), (fun _ h1 h2 => absurd ⟨h1, h2⟩ hd)⟩
theorem GU (d : Int) (xs : List (Int × Unit)) (h : xs.length ≤ 1048576) : fh xs d = some (decide (d ∈ bC xs), ()) := by
 obtain ⟨e, he, hq⟩ := eY (round := dB) (x := (xs, d, ((0 : Nat) : Int), ())) xs.length (fun k x => x = (xs, d, ((k : Nat) : Int), ()) ∧ d ∉ bC (xs.take k)) (fun e => (e = .inl () ∧ d ∉ bC xs) ∨ (e = .inr (true, ()) ∧ d ∈ bC xs)) (by
     rintro x ⟨rfl, g⟩
     rw [List.take_length] at g; exact ⟨.inl (), by simp only [dB, jo, aD, cond_false], .inl ⟨rfl, g⟩⟩) (by
     rintro k x hk ⟨rfl, g⟩
     simp only [dB, jo, aw hk, ar, cond_true, aC, List.getElem?_eq_getElem hk, Option.bind_some, aF (show k < 4611686018427387904 by omega)]
     by_cases e : xs[k].1 = d
     · rw [ae e]; exact .inl ⟨_, rfl, .inr ⟨rfl, by rw [← e]; exact List.mem_map_of_mem (List.getElem_mem hk)⟩⟩
     · rw [af e]; refine .inr ⟨_, rfl, rfl, ?_⟩; rw [List.take_succ_eq_append_getElem hk]; unfold bC at g ⊢; rw [List.map_append, List.mem_append]
       rintro (h1 | h1)
       · exact g h1
       · simp only [List.map_cons, List.map_nil, List.mem_singleton] at h1; exact e h1.symm) ⟨rfl, by simp [bC]⟩
 have he : aE dB (xs, d, (0 : Int), ()) = some e := he; unfold fh; rw [he]; rcases hq with ⟨rfl, g⟩ | ⟨rfl, g⟩
 · rw [af g]; rfl
 · rw [ae g]; rfl
theorem GV (d : Int) (xs : List (Int × Unit)) (h : xs.length ≤ 1048576) : eb xs d = some (decide (d ∈ bC xs), ()) := by
 obtain ⟨b, h1, h2⟩ := pC d xs h; rw [GU d xs h] at h1; injection h1 with h1; injection h1 with h1 _; rw [h2, h1]
def hasB (list : aZ) (s : Int) : Bool := (dY list s).isSome
theorem w6 (o : Option jB) : (om o).2.2.2.2.1 = o.isSome := by cases o <;> rfl
def GW {B C : Type} (list : aZ) (u : Int) : Sum ((List (Int × Unit)) × Unit) B → Sum ((List (Int × Unit)) × Unit) C → Prop
 | .inl a, .inl b => a = b ∧ ∃ ms : List Int, a.1 = aV ms ∧ ms.length ≤ 20 ∧ ∀ s ∈ ms, 1 ≤ s ∧ s ≤ u ∧ hasB list s = false
 | _, _ => False
theorem Az (list : aZ) (upto u : Int) (n : Nat) (h : list.length ≤ 1048576) (hn : n ≤ 1048576) (hu : (if (60 : Int) < upto then (60 : Int) else upto) = u) (amI : u ≤ 60) :
   ∃ e f, aE gC (list, u, [], ((n + 1 : Nat) : Int), ()) = some e ∧ aE iL (list, upto, [], ((n + 1 : Nat) : Int), ()) = some f ∧ GW list u e f := by
 refine nM 61 (fun k x y => ∃ ms : List Int, x = (list, u, aV ms, ((n + 1 + k : Nat) : Int), ()) ∧ y = (list, upto, aV ms, ((n + 1 + k : Nat) : Int), ()) ∧ ms.length ≤ 20 ∧ ∀ s ∈ ms, 1 ≤ s ∧ s ≤ u ∧ hasB list s = false) (GW list u) ?_ ⟨[], rfl, rfl, by simp, fun s hs => by cases hs⟩
 rintro k x y hk ⟨ms, rfl, rfl, q1, q2⟩
 have stop : GW (B := Unit) (C := Unit) list u (.inl (aV ms, ())) (.inl (aV ms, ())) := ⟨rfl, ms, rfl, q1, q2⟩
 by_cases dm : ((n + 1 + k : Nat) : Int) ≤ u
 case neg =>
   refine .inl ⟨.inl (aV ms, ()), .inl (aV ms, ()), ?_, ?_, ⟨rfl, ms, rfl, q1, q2⟩⟩
   · simp only [gC, mL, af dm, cond_false]
   · simp only [iL, mN, hu, af dm, cond_false]
 by_cases RM : ((List.length (aV ms) : Nat) : Int) < 20
 case neg =>
   refine .inl ⟨.inl (aV ms, ()), .inl (aV ms, ()), ?_, ?_, ⟨rfl, ms, rfl, q1, q2⟩⟩
   · simp only [gC, mL, ae dm, af RM, cond_true, cond_false]
   · simp only [iL, mN, hu, ae dm, af RM, cond_true, cond_false]
 have hl : (aV ms).length = ms.length := cR ms; simp only [gC, mL, iL, mN, hu, ae dm, ae RM, cond_true, sR list _ h, sS list _ h, Option.bind_some, w6, bm (show ((aV ms).length + 1) * 8 ≤ lim by unfold lim; omega), aF (show n + 1 + k < 4611686018427387904 by omega)]
 cases hh : (dY list ((n + 1 + k : Nat) : Int)).isSome
 · refine .inr ⟨by omega, _, _, rfl, rfl, ms ++ [((n + 1 + k : Nat) : Int)], by simp [aV]; omega, by simp [aV]; omega, by simp; omega, fun s hs => ?_⟩; rcases List.mem_append.1 hs with hs | hs
   · exact q2 s hs
   · rw [List.mem_singleton] at hs; subst hs; exact ⟨by omega, by omega, hh⟩
 · exact .inr ⟨by omega, _, _, rfl, rfl, ms, by rw [show n + 1 + k + 1 = n + 1 + (k + 1) by omega], by rw [show n + 1 + k + 1 = n + 1 + (k + 1) by omega], q1, q2⟩
theorem IL (list : aZ) (upto : Int) (h : list.length ≤ 1048576) : ∃ ms : List Int, n5 list upto = some (aV ms, ()) ∧ n8 list upto = some (aV ms, ()) ∧ ms.length ≤ 20 ∧ ∀ s ∈ ms, 1 ≤ s ∧ (s ≤ 60 ∧ s ≤ upto) ∧ hasB list s = false := by
 obtain ⟨n, a1, a2, a3, _⟩ := Au list h; have hw : IntKind.i64.wrap (((n : Nat) : Int) + (1 : Int)) = ((n + 1 : Nat) : Int) := aF (by omega); unfold n5 n8; simp only [a1, a2, Option.bind_some, hw]
 by_cases hu : (60 : Int) < upto
 · obtain ⟨e, f, g1, g2, g3⟩ := Az list upto 60 n h (by omega) (if_pos hu) (by omega); rw [ae hu]; simp only [cond_true, g1, g2]
   cases e with
   | inr e => exact g3.elim
   | inl e => cases f with
     | inr f => exact g3.elim
     | inl f =>
       obtain ⟨rfl, ms, k1, k2, k3⟩ := g3; simp only [ew]; exact ⟨ms, by rw [k1], by rw [k1], k2, fun s hs => ⟨(k3 s hs).1, ⟨(k3 s hs).2.1, by have := (k3 s hs).2.1; omega⟩, (k3 s hs).2.2⟩⟩
 · obtain ⟨e, f, g1, g2, g3⟩ := Az list upto upto n h (by omega) (if_neg hu) (by omega); rw [af hu]; simp only [cond_false, g1, g2]
   cases e with
   | inr e => exact g3.elim
   | inl e => cases f with
     | inr f => exact g3.elim
     | inl f =>
       obtain ⟨rfl, ms, k1, k2, k3⟩ := g3; simp only [ew]; exact ⟨ms, by rw [k1], by rw [k1], k2, fun s hs => ⟨(k3 s hs).1, ⟨by have := (k3 s hs).2.1; omega, (k3 s hs).2.1⟩, (k3 s hs).2.2⟩⟩
theorem Eo : ∀ (a b : List Int), a.Pairwise (· < ·) → b.Pairwise (· < ·) → (∀ x, x ∈ a ↔ x ∈ b) → a = b
 | [], [], _, _, _ => rfl
 | [], y :: b, _, _, h => absurd ((h y).2 List.mem_cons_self) (by simp)
 | x :: a, [], _, _, h => absurd ((h x).1 List.mem_cons_self) (by simp)
 | x :: a, y :: b, ha, hb, h => by
   rw [List.pairwise_cons] at ha hb; have hxy : x = y := by
     rcases List.mem_cons.1 ((h x).1 List.mem_cons_self) with e | e
     · exact e
     · have h1 := hb.1 x e; rcases List.mem_cons.1 ((h y).2 List.mem_cons_self) with e2 | e2
       · exact e2.symm
       · have h2 := ha.1 y e2; omega
   subst hxy
   congr 1
   refine Eo a b ha.2 hb.2 fun z => ⟨fun hz => ?_, fun hz => ?_⟩
   · rcases List.mem_cons.1 ((h z).1 (List.mem_cons_of_mem _ hz)) with e | e
     · have := ha.1 z hz; omega
     · exact e
   · rcases List.mem_cons.1 ((h z).2 (List.mem_cons_of_mem _ hz)) with e | e
     · have := hb.1 z hz; omega
     · exact e
theorem Q5 (l : List Int) : (l.mergeSort fun x y => decide (x ≤ y)).Pairwise (· ≤ ·) := by
 have := List.pairwise_mergeSort (le := fun x y : Int => decide (x ≤ y)) (fun a b c h1 h2 => by simp only [decide_eq_true_eq] at *; omega) (fun a b => by simp only [Bool.or_eq_true, decide_eq_true_eq]; omega) l; exact this.imp fun h => by simpa using h
theorem O8 (l : List Int) (x : Int) : x ∈ (l.mergeSort fun x y => decide (x ≤ y)) ↔ x ∈ l := (List.mergeSort_perm l _).mem_iff
theorem tW (l : List Int) (j : Nat) (h : j < l.length) : l.toArray[j]! = l[j] := by
 rw [getElem!_pos l.toArray j (by simpa using h)]; simp
theorem Ep (l : List Int) (h : l.Pairwise (· ≤ ·)) : (Lib.compact l).Pairwise (· < ·) := by
 unfold Lib.compact Lib.compactUpTo; rw [List.pairwise_map]; have hr : ((List.range l.length).filter (Lib.keeps l.toArray)).Pairwise (· < ·) := List.Pairwise.filter _ List.pairwise_lt_range; refine hr.imp_of_mem fun {i j} hi hj hij => ?_
 obtain ⟨hi1, _⟩ := List.mem_filter.1 hi; obtain ⟨Pu, RD⟩ := List.mem_filter.1 hj; have hi1 := List.mem_range.1 hi1; have Pu := List.mem_range.1 Pu; have hk : l.toArray[j]! ≠ l.toArray[j - 1]! := by
   unfold Lib.keeps at RD; rw [decide_eq_true_eq] at RD; exact RD.resolve_left (by omega)
 have hp := List.pairwise_iff_getElem.1 h; have h1 := hp (j - 1) j (by omega) Pu (by omega); rw [tW l j Pu, tW l (j - 1) (by omega)] at hk; rw [tW l i hi1, tW l j Pu]
 by_cases e : i = j - 1
 · subst e; omega
 · have h2 := hp i (j - 1) hi1 (by omega) (by omega); omega
theorem IM (l : List Int) (x : Int) : x ∈ Lib.compact l ↔ x ∈ l := by
 unfold Lib.compact Lib.compactUpTo; rw [List.mem_map]
 constructor
 · rintro ⟨j, hj, rfl⟩
   have Pu := List.mem_range.1 (List.mem_filter.1 hj).1; rw [tW l j Pu]; exact List.getElem_mem Pu
 · intro hx; have key : ∀ j, j < l.length → ∃ i, i ∈ (List.range l.length).filter (Lib.keeps l.toArray) ∧ l.toArray[i]! = l.toArray[j]! := by
     intro j
     induction j with
     | zero => intro h0; exact ⟨0, List.mem_filter.2 ⟨List.mem_range.2 h0, by simp [Lib.keeps]⟩, rfl⟩
     | succ j ih =>
       intro hj
       by_cases e : l.toArray[j + 1]! = l.toArray[j]!
       · obtain ⟨i, h1, h2⟩ := ih (by omega); exact ⟨i, h1, by rw [h2, e]⟩
       · exact ⟨j + 1, List.mem_filter.2 ⟨List.mem_range.2 hj, by unfold Lib.keeps; rw [decide_eq_true_eq, Nat.add_sub_cancel]; exact .inr e⟩, rfl⟩
   obtain ⟨j, hj, rfl⟩ := List.mem_iff_getElem.1 hx; obtain ⟨i, h1, h2⟩ := key j hj; exact ⟨i, h1, by rw [h2, tW l j hj]⟩
def ints (n : Nat) : List Int := (List.range n).map fun i => ((i + 1 : Nat) : Int)
theorem FU (n : Nat) : ints (n + 1) = ints n ++ [((n + 1 : Nat) : Int)] := by
 unfold ints; rw [List.range_succ, List.map_append]; rfl
theorem O9 (n : Nat) (x : Int) : x ∈ ints n ↔ 1 ≤ x ∧ x ≤ ((n : Nat) : Int) := by
 unfold ints; rw [List.mem_map]
 constructor
 · rintro ⟨i, hi, rfl⟩
   have := List.mem_range.1 hi; omega
 · rintro ⟨h1, h2⟩
   exact ⟨(x - 1).toNat, List.mem_range.2 (by omega), by omega⟩
theorem Ca (n : Nat) : (ints n).Pairwise (· < ·) := by
 unfold ints; rw [List.pairwise_map]; exact List.pairwise_lt_range.imp fun h => by omega
theorem Er : ∀ (k d : Nat), ∃ r, ints (k + d) = ints k ++ r
 | k, 0 => ⟨[], by simp⟩
 | k, d + 1 => by
   obtain ⟨r, h⟩ := Er k d; exact ⟨r ++ [((k + d + 1 : Nat) : Int)], by rw [show k + (d + 1) = (k + d) + 1 by omega, FU, h, List.append_assoc]⟩
theorem Kj (a b : List Int) : aV (a ++ b) = aV a ++ aV b := by simp [aV]
theorem IN (a : List Int) (n : Nat) : aV (a.take n) = (aV a).take n := by simp [aV, List.map_take]
theorem pD (a : List Int) : bC (aV a) = a := by simp [bC, aV, Function.comp_def]
def hU (list : aZ) (xs : List (Int × Unit)) (ms : List Int) (s : Int) : Bool := (!hasB list s && decide (s ∈ bC xs)) || decide (s ∈ ms)
def kF (list : aZ) (xs : List (Int × Unit)) (ms : List Int) : List Int := ((ints 60).filter (hU list xs ms)).take 20
abbrev RN : Type := aZ × Int × Int × Int × Int × Int × (List (Int × Unit)) × Int × Int × Int × Int × Int × (List (Int × Unit)) × Int × Int × Int × Int × Int × (List (Int × Unit)) × (List (Int × Unit)) × Int × Unit
theorem Kk (t0 t1 t2 t3 t4 : Int) (xs : List (Int × Unit)) (list : aZ) (ms : List Int) (h : list.length ≤ 1048576) (hx : xs.length ≤ 1048576) (hm : n5 list t2 = some (aV ms, ())) (hms : ms.length ≤ 20) :
   du t0 t1 t2 t3 t4 xs list = some (t0, t1, t2, t3, t4, aV (kF list xs ms), ()) := by
 have R9 : (aV ms).length ≤ 1048576 := by rw [cR]; omega
 obtain ⟨e, he, rfl⟩ := eY (round := kI) (x := (list, t0, t1, t2, t3, t4, xs, (0 : Int), (0 : Int), (0 : Int), (0 : Int), (0 : Int), [], t0, t1, t2, t3, t4, [], aV ms, ((0 + 1 : Nat) : Int), ())) 60
   (fun k x => x = (list, t0, t1, t2, t3, t4, xs, (0 : Int), (0 : Int), (0 : Int), (0 : Int), (0 : Int), [], t0, t1, t2, t3, t4, aV ((ints k).filter (hU list xs ms)), aV ms, ((k + 1 : Nat) : Int), ()) ∧ ((ints k).filter (hU list xs ms)).length ≤ 20)
   (fun e => e = .inl ((0 : Int), (0 : Int), (0 : Int), (0 : Int), (0 : Int), [], t0, t1, t2, t3, t4, aV (kF list xs ms), ())) (by
     rintro x ⟨rfl, g⟩
     refine ⟨_, ?_, rfl⟩; simp only [kI, pv, af (show ¬ ((60 + 1 : Nat) : Int) ≤ (60 : Int) by omega), cond_false]; unfold kF; rw [List.take_of_length_le g]) (by
     rintro k x hk ⟨rfl, g⟩
     have hle : ((k + 1 : Nat) : Int) ≤ (60 : Int) := by omega
     have hl := cR ((ints k).filter (hU list xs ms))
     by_cases RM : ((List.length (aV ((ints k).filter (hU list xs ms))) : Nat) : Int) < 20
     case neg =>
       refine .inl ⟨_, ?_, rfl⟩; simp only [kI, pv, ae hle, af RM, cond_true, cond_false]; have : kF list xs ms = (ints k).filter (hU list xs ms) := by
         unfold kF; obtain ⟨r, hr⟩ := Er k (60 - k); rw [show k + (60 - k) = 60 by omega] at hr; rw [hr, List.filter_append]; exact List.take_left' (by omega)
       rw [this]
     have FV : (ints (k + 1)).filter (hU list xs ms) = (ints k).filter (hU list xs ms) ++ (if hU list xs ms ((k + 1 : Nat) : Int) then [((k + 1 : Nat) : Int)] else []) := by
       rw [FU, List.filter_append]; rw [List.filter_cons, List.filter_nil]
     have agt := GU ((k + 1 : Nat) : Int) xs hx; have aaC := GU ((k + 1 : Nat) : Int) (aV ms) R9; rw [pD] at aaC; have hb : Nat.ble (((aV ((ints k).filter (hU list xs ms))).length + 1) * 8) lim = true := bm (by unfold lim; omega); have hsw := aF (show k + 1 < 4611686018427387904 by omega); simp only [kI, pv, ae hle, ae RM, cond_true, sR list _ h, Option.bind_some, w6, agt, aaC, hb, hsw]; have yes : hU list xs ms ((k + 1 : Nat) : Int) = true → ∃ x' : RN, x' = (list, t0, t1, t2, t3, t4, xs, (0 : Int), (0 : Int), (0 : Int), (0 : Int), (0 : Int), [], t0, t1, t2, t3, t4, aV ((ints k).filter (hU list xs ms)) ++ [(((k + 1 : Nat) : Int), ())], aV ms, ((k + 1 + 1 : Nat) : Int), ()) ∧
         (x' = (list, t0, t1, t2, t3, t4, xs, (0 : Int), (0 : Int), (0 : Int), (0 : Int), (0 : Int), [], t0, t1, t2, t3, t4, aV ((ints (k + 1)).filter (hU list xs ms)), aV ms, ((k + 1 + 1 : Nat) : Int), ()) ∧ ((ints (k + 1)).filter (hU list xs ms)).length ≤ 20) := by
       intro hp; refine ⟨_, rfl, ?_, ?_⟩
       · rw [FV, hp, if_pos rfl, Kj]; rfl
       · rw [FV, hp, if_pos rfl, List.length_append]; simp; omega
     have no : hU list xs ms ((k + 1 : Nat) : Int) = false → ∃ x' : RN, x' = (list, t0, t1, t2, t3, t4, xs, (0 : Int), (0 : Int), (0 : Int), (0 : Int), (0 : Int), [], t0, t1, t2, t3, t4, aV ((ints k).filter (hU list xs ms)), aV ms, ((k + 1 + 1 : Nat) : Int), ()) ∧
         (x' = (list, t0, t1, t2, t3, t4, xs, (0 : Int), (0 : Int), (0 : Int), (0 : Int), (0 : Int), [], t0, t1, t2, t3, t4, aV ((ints (k + 1)).filter (hU list xs ms)), aV ms, ((k + 1 + 1 : Nat) : Int), ()) ∧ ((ints (k + 1)).filter (hU list xs ms)).length ≤ 20) := by
       intro hp; refine ⟨_, rfl, ?_, ?_⟩
       · rw [FV, hp]; simp
       · rw [FV, hp]; simp; omega
     have GX : hU list xs ms ((k + 1 : Nat) : Int) = ((!(dY list ((k + 1 : Nat) : Int)).isSome && decide (((k + 1 : Nat) : Int) ∈ bC xs)) || decide (((k + 1 : Nat) : Int) ∈ ms)) := rfl
     cases c1 : (dY list ((k + 1 : Nat) : Int)).isSome
     · cases c2 : decide (((k + 1 : Nat) : Int) ∈ bC xs)
       · cases c3 : decide (((k + 1 : Nat) : Int) ∈ ms)
         · obtain ⟨x', g1, g2⟩ := no (by rw [GX, c1, c2, c3]; rfl); exact .inr ⟨x', by rw [g1]; rfl, g2⟩
         · obtain ⟨x', g1, g2⟩ := yes (by rw [GX, c1, c2, c3]; rfl); exact .inr ⟨x', by rw [g1]; rfl, g2⟩
       · obtain ⟨x', g1, g2⟩ := yes (by rw [GX, c1, c2]; rfl); exact .inr ⟨x', by rw [g1]; rfl, g2⟩
     · cases c3 : decide (((k + 1 : Nat) : Int) ∈ ms)
       · obtain ⟨x', g1, g2⟩ := no (by rw [GX, c1, c3]; rfl); exact .inr ⟨x', by rw [g1]; rfl, g2⟩
       · obtain ⟨x', g1, g2⟩ := yes (by rw [GX, c1, c3]; rfl); exact .inr ⟨x', by rw [g1]; rfl, g2⟩) ⟨rfl, by simp [ints]⟩
 unfold du; rw [hm]; simp only [Option.bind_some]; rw [show (1 : Int) = ((0 + 1 : Nat) : Int) from rfl, he]; rfl
def qK (list : aZ) (s : Int) : Bool := !hasB list s && (decide (1 ≤ s) && decide (s ≤ 60))
theorem Kl (t0 t1 t2 t3 t4 : Int) (xs : List (Int × Unit)) (list : aZ) (ms : List Int) (h : list.length ≤ 1048576) (hx : xs.length ≤ 1048576) (hm : n8 list t2 = some (aV ms, ())) (hms : ms.length ≤ 20) (hmp : ∀ s ∈ ms, 1 ≤ s ∧ s ≤ 60 ∧ hasB list s = false) :
   sg t0 t1 t2 t3 t4 xs list = some (t0, t1, t2, t3, t4, aV (kF list xs ms), ()) := by
 have Lf := de (round := kJ) (e := .inl ((0 : Int), (0 : Int), (0 : Int), (0 : Int), (0 : Int), [], t0, t1, t2, t3, t4, xs, aV (ms ++ (bC xs).filter (qK list)), ())) xs.length
   (fun k => (list, (0 : Int), (0 : Int), (0 : Int), (0 : Int), (0 : Int), [], t0, t1, t2, t3, t4, xs, aV (ms ++ (bC (xs.take k)).filter (qK list)), xs, ((List.length xs : Nat) : Int), ((k : Nat) : Int), ())) (by
     simp only [kJ, td, aD, cond_false, List.take_length]) (fun k hk => by
     have hfl : ((bC (xs.take k)).filter (qK list)).length ≤ 1048576 := by
       have h1 := List.length_filter_le (qK list) (bC (xs.take k)); have h2 := jm (xs.take k); rw [List.length_take] at h2; omega
     have hl := cR (ms ++ (bC (xs.take k)).filter (qK list)); rw [List.length_append] at hl; have FV : (bC (xs.take (k + 1))).filter (qK list) = (bC (xs.take k)).filter (qK list) ++ (if qK list xs[k].1 then [xs[k].1] else []) := by
       rw [List.take_succ_eq_append_getElem hk]; unfold bC; rw [List.map_append, List.filter_append, List.map_cons, List.map_nil, List.filter_cons, List.filter_nil]
     have GX : qK list xs[k].1 = (!(dY list xs[k].1).isSome && (decide (1 ≤ xs[k].1) && decide (xs[k].1 ≤ 60))) := rfl; simp only [kJ, td, aw hk, ar, cond_true, aC, List.getElem?_eq_getElem hk, Option.bind_some, sS list _ h, w6, su, bm (show ((aV (ms ++ (bC (xs.take k)).filter (qK list))).length + 1) * 8 ≤ lim by unfold lim; omega), aF (show k < 4611686018427387904 by omega), FV]
     cases c1 : (dY list xs[k].1).isSome
     · cases c2 : (decide (1 ≤ xs[k].1) && decide (xs[k].1 ≤ 60))
       · rw [GX, c1, c2]; simp
       · rw [GX, c1, c2]; simp [aV]
     · rw [GX, c1]; simp)
 have Lf : aE kJ (list, (0 : Int), (0 : Int), (0 : Int), (0 : Int), (0 : Int), [], t0, t1, t2, t3, t4, xs, aV (ms ++ (bC (xs.take 0)).filter (qK list)), xs, ((List.length xs : Nat) : Int), (0 : Int), ()) = _ := Lf; rw [show ms ++ (bC (xs.take 0)).filter (qK list) = ms by simp [bC]] at Lf; have c2 : dU t0 t1 t2 t3 t4 xs = some (t0, t1, t2, t3, t4, xs, ()) := by
   unfold dU; rw [nv xs hx]; rfl
 have hwl : (ms ++ (bC xs).filter (qK list)).length ≤ 1048576 + 20 := by
   rw [List.length_append]; have h1 := List.length_filter_le (qK list) (bC xs); have h2 := jm xs; omega
 generalize hW : ms ++ (bC xs).filter (qK list) = W at *; have aaD : DI (aV W) = some (aV (W.mergeSort fun x y => decide (x ≤ y)), ()) := by
   unfold DI; rw [bm (show (aV W).length ≤ lim by rw [cR]; unfold lim; omega), pD]; rfl
 have RO : nN (aV (W.mergeSort fun x y => decide (x ≤ y))) = some (aV (Lib.compact (W.mergeSort fun x y => decide (x ≤ y))), ()) := by
   unfold nN; rw [bm (show (aV (W.mergeSort fun x y => decide (x ≤ y))).length ≤ lim by rw [cR, List.length_mergeSort]; unfold lim; omega), pD]; rfl
 have hC : Lib.compact (W.mergeSort fun x y => decide (x ≤ y)) = (ints 60).filter (hU list xs ms) := by
   refine Eo _ _ (Ep _ (Q5 W)) ((Ca 60).filter _) fun z => ?_
   rw [IM, O8, ← hW, List.mem_append, List.mem_filter, List.mem_filter, O9]; unfold qK hU; simp only [Bool.and_eq_true, Bool.or_eq_true, decide_eq_true_eq, Bool.not_eq_true']
   constructor
   · rintro (h1 | ⟨h1, h2, h3, h4⟩)
     · exact ⟨⟨(hmp z h1).1, (hmp z h1).2.1⟩, .inr h1⟩
     · exact ⟨⟨h3, h4⟩, .inl ⟨h2, h1⟩⟩
   · rintro ⟨⟨h3, h4⟩, ⟨h2, h1⟩ | h1⟩
     · exact .inr ⟨h1, h2, h3, h4⟩
     · exact .inl h1
 rw [hC] at RO; have hCl : ((ints 60).filter (hU list xs ms)).length ≤ 60 := Nat.le_trans (List.length_filter_le _ _) (by simp [ints]); have agu : (if (20 : Int) < ((List.length (aV ((ints 60).filter (hU list xs ms))) : Nat) : Int) then (20 : Int) else ((List.length (aV ((ints 60).filter (hU list xs ms))) : Nat) : Int)) = ((min 20 ((ints 60).filter (hU list xs ms)).length : Nat) : Int) := by
   rw [cR]
   split <;> omega
 have aaE : List.take (min 20 ((ints 60).filter (hU list xs ms)).length) (aV ((ints 60).filter (hU list xs ms))) = aV (kF list xs ms) := by
   unfold kF; rw [IN]
   by_cases RM : 20 ≤ ((ints 60).filter (hU list xs ms)).length
   · rw [Nat.min_eq_left RM]
   · rw [Nat.min_eq_right (by omega), List.take_of_length_le (by rw [cR]; omega), List.take_of_length_le (by rw [cR]; omega)]
 have sy := nv (aV (kF list xs ms)) (by rw [cR]; unfold kF; rw [List.length_take]; omega); unfold sg; rw [c2, hm]; simp only [Option.bind_some]; rw [Lf]; simp only [ew, aaD, RO, Option.bind_some, agu, ar, cond_true, aC, List.drop_zero, aaE, sy, ae (show ((min 20 ((ints 60).filter (hU list xs ms)).length : Nat) : Int) ≤ ((List.length (aV ((ints 60).filter (hU list xs ms))) : Nat) : Int) by rw [cR]; omega)]
theorem Lg {xs : aZ} {s : Int} : hasB xs s = true ↔ ∃ r ∈ xs, r.1 = s := by
 unfold hasB dY; rw [List.find?_isSome]; simp only [decide_eq_true_eq]
theorem FW {r m : jB} : {xs : aZ} → r ∈ xs → r ∈ tV xs m
 | [], h => by cases h
 | x :: xs, h => by
   unfold tV
   split
   · rcases List.mem_cons.1 h with rfl | h
     · exact List.mem_cons_self
     · exact List.mem_cons_of_mem _ (FW h)
   · split
     · exact h
     · exact List.mem_cons_of_mem _ h
theorem Pb {xs ys : aZ} (hx : xs.length ≤ 1048576) (hy : ys.length ≤ 1048576) (h : ∀ r ∈ xs, ∃ q ∈ ys, q.1 = r.1) : eU xs ≤ eU ys := by
 obtain ⟨_, a1, _⟩ := (Bh xs hx).2.2; obtain ⟨_, _, b2⟩ := (Bh ys hy).2.2
 by_cases dm : eU ys < eU xs
 · have h1 := a1 _ dm; obtain ⟨r, hr, e⟩ := Lg.1 h1; obtain ⟨q, hq, e2⟩ := h r hr; have : hasB ys ((eU ys + 1 : Nat) : Int) = true := Lg.2 ⟨q, hq, e2.trans e⟩; unfold hasB at this; rw [b2] at this
   cases this
 · omega
def cg (xs : aZ) (fs : aZ) : aZ := fs.foldl tV xs
theorem rf : (fs : aZ) → {xs : aZ} → gV xs xs.length → (∀ f ∈ fs, sw f) → gV (cg xs fs) (cg xs fs).length
 | [], _, h, _ => h
 | f :: fs, _, h, hf => rf fs (Kf h (hf f List.mem_cons_self)) fun g hg => hf g (List.mem_cons_of_mem _ hg)
theorem Cb {r : jB} : (fs : aZ) → {xs : aZ} → r ∈ xs → r ∈ cg xs fs
 | [], _, h => h
 | _ :: fs, _, h => Cb fs (FW h)
theorem Km {c2 d : Int} {lv : qf} {tx : List (ByteArray × Unit)} {k j : Nat} (hc : 0 ≤ c2 ∧ c2 + ((k : Nat) : Int) ≤ 60) (hd : 1 ≤ d ∧ d ≤ 5) (hk : k ≤ tx.length) (hs : jH tx tx.length) (hj : j < k) : sw (CB c2 d lv tx j) := by
 have h1 : j < tx.length := by omega
 have hgt : (tx.getD j (ByteArray.empty, ())).1 = tx[j].1 := by rw [List.getD_eq_getElem?_getD, List.getElem?_eq_getElem h1, Option.getD_some]
 refine ⟨⟨?_, ?_⟩, hd, ?_, ?_⟩
 · show 1 ≤ c2 + ((j + 1 : Nat) : Int); omega
 · show c2 + ((j + 1 : Nat) : Int) ≤ 60; omega
 · show 1 ≤ (bif decide (j < lv.length) && decide ((lv.getD j ((0 : Int), ())).1 = 2) then (2 : Int) else 1) ∧ (bif decide (j < lv.length) && decide ((lv.getD j ((0 : Int), ())).1 = 2) then (2 : Int) else 1) ≤ 2
   cases decide (j < lv.length) && decide ((lv.getD j ((0 : Int), ())).1 = 2) <;> decide
 · show ByteArray.size (tx.getD j (ByteArray.empty, ())).1 ≤ 60; rw [hgt]; exact hs j h1 h1
theorem Cc {c2 d : Int} {lv : qf} {tx : List (ByteArray × Unit)} {k : Nat} (hc : 0 ≤ c2 ∧ c2 + ((k : Nat) : Int) ≤ 60) (hd : 1 ≤ d ∧ d ≤ 5) (hk : k ≤ tx.length) (hs : jH tx tx.length) : ∀ f ∈ gi c2 d lv tx k, sw f := by
 intro f hf; unfold gi at hf; obtain ⟨j, hj, rfl⟩ := List.mem_map.1 hf; exact Km hc hd hk hs (List.mem_range.1 hj)
def tX (t : re) (xs : aZ) : aZ := xs.filter fun r => decide (r.1 ∈ bC t.2.2.2.2.2.1)
theorem Pc (t : re) (xs : aZ) (h : xs.length ≤ 1048576) (hw : t.2.2.2.2.2.1.length ≤ 1048576) : tK t.1 t.2.1 t.2.2.1 t.2.2.2.1 t.2.2.2.2.1 t.2.2.2.2.2.1 xs = some (tX t xs, ()) ∧ tO t.1 t.2.1 t.2.2.1 t.2.2.2.1 t.2.2.2.2.1 t.2.2.2.2.2.1 xs = some (tX t xs, ()) := by
 have hlen : ∀ k, ((xs.take k).filter fun r => decide (r.1 ∈ bC t.2.2.2.2.2.1)).length ≤ k := fun k => Nat.le_trans (List.length_filter_le _ _) (List.length_take_le _ _)
 constructor
 · have hl := de (round := lQ) (e := .inl (tX t xs, ())) xs.length (fun k => (xs, t.1, t.2.1, t.2.2.1, t.2.2.2.1, t.2.2.2.2.1, t.2.2.2.2.2.1, (xs.take k).filter (fun r => decide (r.1 ∈ bC t.2.2.2.2.2.1)), ((k : Nat) : Int), ())) (by
     simp only [lQ, uB, aD, cond_false, List.take_length, tX]) (fun k hk => by
     have Ch := hlen k; simp only [lQ, uB, aw hk, ar, cond_true, aC, List.getElem?_eq_getElem hk, Option.bind_some, GU _ _ hw, bm (show (((xs.take k).filter fun r => decide (r.1 ∈ bC t.2.2.2.2.2.1)).length + 1) * 40 ≤ lim by unfold lim; omega), aF (show k < 4611686018427387904 by omega)]; rw [List.take_succ_eq_append_getElem hk, List.filter_append]
     cases hp : decide (xs[k].1 ∈ bC t.2.2.2.2.2.1)
     · rw [List.filter_cons_of_neg (by rw [hp]; simp)]; simp
     · rw [List.filter_cons_of_pos (by rw [hp])]; rfl)
   have hl : aE lQ (xs, t.1, t.2.1, t.2.2.1, t.2.2.2.1, t.2.2.2.2.1, t.2.2.2.2.2.1, [], (0 : Int), ()) = _ := hl; unfold tK; rw [hl]; rfl
 · have hl := de (round := lT) (e := .inl (tX t xs, ())) xs.length (fun k => (t.1, t.2.1, t.2.2.1, t.2.2.2.1, t.2.2.2.2.1, t.2.2.2.2.2.1, (xs.take k).filter (fun r => decide (r.1 ∈ bC t.2.2.2.2.2.1)), xs, ((List.length xs : Nat) : Int), ((k : Nat) : Int), ())) (by
     simp only [lT, uZ, aD, cond_false, List.take_length, tX]) (fun k hk => by
     have Ch := hlen k; simp only [lT, uZ, aw hk, ar, cond_true, aC, List.getElem?_eq_getElem hk, Option.bind_some, GV _ _ hw, bm (show (((xs.take k).filter fun r => decide (r.1 ∈ bC t.2.2.2.2.2.1)).length + 1) * 40 ≤ lim by unfold lim; omega), aF (show k < 4611686018427387904 by omega)]; rw [List.take_succ_eq_append_getElem hk, List.filter_append]
     cases hp : decide (xs[k].1 ∈ bC t.2.2.2.2.2.1)
     · rw [List.filter_cons_of_neg (by rw [hp]; simp)]; simp
     · rw [List.filter_cons_of_pos (by rw [hp])]; rfl)
   have hl : aE lT (t.1, t.2.1, t.2.2.1, t.2.2.2.1, t.2.2.2.2.1, t.2.2.2.2.2.1, [], xs, ((List.length xs : Nat) : Int), (0 : Int), ()) = _ := hl; unfold tO; rw [hl]; rfl
theorem Pd {t : re} {xs : aZ} {r : jB} (h : r ∈ tX t xs) : r ∈ xs := (List.mem_filter.1 h).1
theorem IP (t : re) (xs : aZ) : (tX t xs).length ≤ xs.length := List.length_filter_le _ _
end Go.TM
