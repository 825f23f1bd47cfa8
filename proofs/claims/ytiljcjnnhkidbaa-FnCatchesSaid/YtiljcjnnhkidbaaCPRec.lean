/- What is right, said plainly of rings, bundles, members and daemons. -/
import Derived.Test.YtiljcjnnhkidbaaCPRight
set_option linter.unusedSimpArgs false
set_option linter.unusedVariables false
namespace Go.TM
open Go
abbrev MemL : Type := List (Int × Unit)
abbrev TokR : Type := Int × Int × Int × Int × Int × MemL × Unit
abbrev MatR : Type := Int × Int × MemL × ItemL × MemL × (List (ByteArray × Unit)) × Int × Int × Int × Int × Int × Int × Int × Int × Int × MemL × Unit
def MemP (xs : MemL) (n : Nat) : Prop := ∀ k (h : k < xs.length), k < n → (1 ≤ xs[k].1 ∧ xs[k].1 ≤ 5) ∧ ∀ h0 : 0 < k, xs[k - 1].1 < xs[k].1
def RingP (c : Int) (xs : MemL) : Prop := (1 ≤ c ∧ c ≤ 9) ∧ (1 ≤ xs.length ∧ xs.length ≤ 5) ∧ MemP xs xs.length
theorem ring_iff (c : Int) (xs : MemL) (h : xs.length ≤ 1048576) : ∃ b, spec_RingOk c xs = some (b, ()) ∧ impl_RingOk c xs = some (b, ()) ∧ (b = true ↔ RingP c xs) := by
 obtain ⟨b, h1, h2, _⟩ := ring_same c xs h; refine ⟨b, h1, h2, ?_⟩; obtain ⟨e, he, hq⟩ := loop_inv (round := spec_RingOk_r0) (x := (c, xs, ((0 : Nat) : Int), ())) xs.length (fun k x => x = (c, xs, ((k : Nat) : Int), ()) ∧ MemP xs k) (fun e => (e = .inl () ∧ MemP xs xs.length) ∨ (e = .inr (false, ()) ∧ ¬ MemP xs xs.length)) (by
     rintro x ⟨rfl, g⟩
     exact ⟨.inl (), by simp only [spec_RingOk_r0, spec_RingOk_c0, lt_nat_irr, cond_false], .inl ⟨rfl, g⟩⟩) (by
     rintro k x hk ⟨rfl, g⟩
     simp only [spec_RingOk_r0, spec_RingOk_c0, lt_nat_true hk, zero_le_nat, cond_true, toNat_nat, List.getElem?_eq_getElem hk, Option.bind_some, in_eq, succ_wrap (show k < 4611686018427387904 by omega)]; have more : (1 ≤ xs[k].1 ∧ xs[k].1 ≤ 5) → (∀ h0 : 0 < k, xs[k - 1].1 < xs[k].1) → MemP xs (k + 1) := fun q1 q2 j hj hjk => by
       by_cases e : j < k
       · exact g j hj e
       · have : j = k := by omega
         subst this; exact ⟨q1, q2⟩
     cases hb : (decide (1 ≤ xs[k].1) && decide (xs[k].1 ≤ 5))
     · exact .inl ⟨.inr (false, ()), rfl, .inr ⟨rfl, fun hn => by
         have := (hn k hk hk).1; rw [dec_true this.1, dec_true this.2] at hb
         cases hb⟩⟩
     · have q1 := and_of hb
       by_cases h0 : 0 < k
       · have hp : k - 1 < xs.length := by omega
         rw [pred_wrap h0 (by omega)]; simp only [dec_true (show (0 : Int) < ((k : Nat) : Int) by omega), Bool.not_true, cond_false, cond_true, zero_le_nat, toNat_nat, List.getElem?_eq_getElem hp, Option.bind_some]
         by_cases hs : xs[k].1 ≤ xs[k - 1].1
         · rw [dec_true hs]; refine .inl ⟨.inr (false, ()), rfl, .inr ⟨rfl, fun hn => ?_⟩⟩; have := (hn k hk hk).2 h0; omega
         · rw [dec_false hs]; exact .inr ⟨_, rfl, rfl, more q1 (fun _ => by omega)⟩
       · have : k = 0 := by omega
         subst this; simp only [dec_false (show ¬ (0 : Int) < ((0 : Nat) : Int) by omega), Bool.not_true, cond_false]; exact .inr ⟨_, rfl, rfl, more q1 (fun h => absurd h (by omega))⟩) ⟨rfl, fun j _ h => by omega⟩
 have he : loopV spec_RingOk_r0 (c, xs, (0 : Int), ()) = some e := he; unfold spec_RingOk at h1; simp only [in_eq, Option.bind_some, he] at h1; unfold RingP
 cases a1 : (decide (1 ≤ c) && decide (c ≤ 9))
 · rw [a1] at h1; injection h1 with h1; injection h1 with h1 _; subst h1; refine ⟨fun h => (by cases h), fun h => ?_⟩; rw [dec_true h.1.1, dec_true h.1.2] at a1
   cases a1
 cases a2 : (decide (1 ≤ ((List.length xs : Nat) : Int)) && decide (((List.length xs : Nat) : Int) ≤ 5))
 · rw [a1, a2] at h1; injection h1 with h1; injection h1 with h1 _; subst h1; refine ⟨fun h => (by cases h), fun h => ?_⟩; rw [dec_true (show (1 : Int) ≤ ((List.length xs : Nat) : Int) by omega), dec_true (show ((List.length xs : Nat) : Int) ≤ 5 by omega)] at a2
   cases a2
 rw [a1, a2] at h1; have a1 := and_of a1; have a2 := and_of a2; rcases hq with ⟨rfl, g⟩ | ⟨rfl, g⟩
 · injection h1 with h1; injection h1 with h1 _; exact ⟨fun _ => ⟨a1, by omega, g⟩, fun _ => h1.symm⟩
 · injection h1 with h1; injection h1 with h1 _; subst h1; exact ⟨fun h => (by cases h), fun h => absurd h.2.2 g⟩
noncomputable def ringB (c : Int) (xs : MemL) : Bool := match spec_RingOk c xs with | some x => x.1 | none => false
theorem ring_ok (c : Int) (xs : MemL) (h : xs.length ≤ 1048576) : spec_RingOk c xs = some (ringB c xs, ()) ∧ impl_RingOk c xs = some (ringB c xs, ()) ∧ (ringB c xs = true ↔ RingP c xs) := by
 obtain ⟨b, h1, h2, h3⟩ := ring_iff c xs h; have : ringB c xs = b := by unfold ringB; rw [h1]
 rw [this]; exact ⟨h1, h2, h3⟩
noncomputable def itemsB (xs : ItemL) : Bool := match spec_ItemsOk xs with | some x => x.1 | none => false
theorem items_ok (xs : ItemL) (h : xs.length ≤ 1048576) : spec_ItemsOk xs = some (itemsB xs, ()) ∧ impl_ItemsOk xs = some (itemsB xs, ()) ∧ (itemsB xs = true ↔ ItemsP xs xs.length) := by
 obtain ⟨b, h1, h2, h3⟩ := items_iff xs h; have : itemsB xs = b := by unfold itemsB; rw [h1]
 rw [this]; exact ⟨h1, h2, h3⟩
noncomputable def itemB (r : ItemR) : Bool := match spec_ItemOk r.1 r.2.1 r.2.2.1 r.2.2.2.1 with | some x => x.1 | none => false
theorem item_ok (r : ItemR) : spec_ItemOk r.1 r.2.1 r.2.2.1 r.2.2.2.1 = some (itemB r, ()) ∧ impl_ItemOk r.1 r.2.1 r.2.2.1 r.2.2.2.1 = some (itemB r, ()) ∧ (itemB r = true ↔ ItemP r) := by
 obtain ⟨b, h1, h2, h3⟩ := item_iff r.1 r.2.1 r.2.2.1 r.2.2.2.1; have : itemB r = b := by unfold itemB; rw [h1]
 rw [this]; exact ⟨h1, h2, h3⟩
theorem and_iff {p q : Prop} [Decidable p] [Decidable q] : (decide p && decide q) = true ↔ p ∧ q := by
 rw [Bool.and_eq_true, decide_eq_true_eq, decide_eq_true_eq]
theorem blank_iff (c0 c1 c2 c3 c4 : Int) (xs : MemL) : ∃ b, spec_l10Blank c0 c1 c2 c3 c4 xs = some (b, ()) ∧ impl_Token_isZero c0 c1 c2 c3 c4 xs = some (b, ()) ∧ (b = true ↔ c0 = 0 ∧ c1 = 0 ∧ c2 = 0 ∧ c3 = 0 ∧ c4 = 0 ∧ xs = []) := by
 obtain ⟨b, h1, h2⟩ := blank_same c0 c1 c2 c3 c4 xs; refine ⟨b, h1, h2, ?_⟩; unfold impl_Token_isZero at h2; have hl : ((List.length xs : Nat) : Int) = 0 ↔ xs = [] := by rw [← List.length_eq_zero_iff]; omega
 by_cases e0 : c0 = 0
 case neg => simp [dec_false e0] at h2; subst h2; simp [e0]
 by_cases e1 : c1 = 0
 case neg => simp [dec_true e0, dec_false e1] at h2; subst h2; simp [e1]
 by_cases e2 : c2 = 0
 case neg => simp [dec_true e0, dec_true e1, dec_false e2] at h2; subst h2; simp [e2]
 by_cases e3 : c3 = 0
 case neg => simp [dec_true e0, dec_true e1, dec_true e2, dec_false e3] at h2; subst h2; simp [e3]
 by_cases e4 : c4 = 0
 case neg => simp [dec_true e0, dec_true e1, dec_true e2, dec_true e3, dec_false e4] at h2; subst h2; simp [e4]
 by_cases e5 : ((List.length xs : Nat) : Int) = 0
 · rw [dec_true e0, dec_true e1, dec_true e2, dec_true e3, dec_true e4, dec_true e5] at h2; injection h2 with h2; injection h2 with h2 _; exact ⟨fun _ => ⟨e0, e1, e2, e3, e4, hl.1 e5⟩, fun _ => h2.symm⟩
 · rw [dec_true e0, dec_true e1, dec_true e2, dec_true e3, dec_true e4, dec_false e5] at h2; injection h2 with h2; injection h2 with h2 _; subst h2; exact ⟨fun h => (by cases h), fun h => absurd (hl.2 h.2.2.2.2.2) e5⟩
def Blank (t : TokR) : Prop := t.1 = 0 ∧ t.2.1 = 0 ∧ t.2.2.1 = 0 ∧ t.2.2.2.1 = 0 ∧ t.2.2.2.2.1 = 0 ∧ t.2.2.2.2.2.1 = []
noncomputable def blankB (t : TokR) : Bool := match spec_l10Blank t.1 t.2.1 t.2.2.1 t.2.2.2.1 t.2.2.2.2.1 t.2.2.2.2.2.1 with | some x => x.1 | none => false
theorem blank_ok (t : TokR) : spec_l10Blank t.1 t.2.1 t.2.2.1 t.2.2.2.1 t.2.2.2.2.1 t.2.2.2.2.2.1 = some (blankB t, ()) ∧ impl_Token_isZero t.1 t.2.1 t.2.2.1 t.2.2.2.1 t.2.2.2.2.1 t.2.2.2.2.2.1 = some (blankB t, ()) ∧ (blankB t = true ↔ Blank t) := by
 obtain ⟨b, h1, h2, h3⟩ := blank_iff t.1 t.2.1 t.2.2.1 t.2.2.2.1 t.2.2.2.2.1 t.2.2.2.2.2.1; have : blankB t = b := by unfold blankB; rw [h1]
 rw [this]; exact ⟨h1, h2, h3⟩
def TokQ (t : TokR) : Prop := TokP t.1 t.2.1 t.2.2.1 t.2.2.2.1 t.2.2.2.2.1 t.2.2.2.2.2.1
noncomputable def tokB (t : TokR) : Bool := match spec_TokenOk t.1 t.2.1 t.2.2.1 t.2.2.2.1 t.2.2.2.2.1 t.2.2.2.2.2.1 with | some x => x.1 | none => false
theorem tok_ok (t : TokR) (h : t.2.2.2.2.2.1.length ≤ 1048576) : spec_TokenOk t.1 t.2.1 t.2.2.1 t.2.2.2.1 t.2.2.2.2.1 t.2.2.2.2.2.1 = some (tokB t, ()) ∧ impl_TokenOk t.1 t.2.1 t.2.2.1 t.2.2.2.1 t.2.2.2.2.1 t.2.2.2.2.2.1 = some (tokB t, ()) ∧ (tokB t = true ↔ TokQ t) := by
 obtain ⟨b, h1, h2, h3⟩ := token_iff t.1 t.2.1 t.2.2.1 t.2.2.2.1 t.2.2.2.2.1 t.2.2.2.2.2.1 h; have : tokB t = b := by unfold tokB; rw [h1]
 rw [this]; exact ⟨h1, h2, h3⟩
noncomputable def aruOf (xs : ItemL) : Nat := match spec_AruOf xs with | some x => x.1.toNat | none => 0
theorem aru_ok (xs : ItemL) (h : xs.length ≤ 1048576) : spec_AruOf xs = some (((aruOf xs : Nat) : Int), ()) ∧ impl_AruOf xs = some (((aruOf xs : Nat) : Int), ()) ∧ IsAru xs (aruOf xs) := by
 obtain ⟨n, h1, h2, h3⟩ := aru_same xs h; have : aruOf xs = n := by unfold aruOf; rw [h1]; rfl
 rw [this]; exact ⟨h1, h2, h3⟩
structure MatQ (m : MatR) : Prop where
 ring : RingP m.2.1 m.2.2.1
 mem : (m.1, ()) ∈ m.2.2.1
 items : ItemsP m.2.2.2.1 m.2.2.2.1.length
 texts : m.2.2.2.2.2.1.length ≤ 20 ∧ m.2.2.2.2.1.length = m.2.2.2.2.2.1.length
 lev : LevOk m.2.2.2.2.1 m.2.2.2.2.1.length
 short : ShortOk m.2.2.2.2.2.1 m.2.2.2.2.2.1.length
 round : 0 ≤ m.2.2.2.2.2.2.1 ∧ m.2.2.2.2.2.2.1 ≤ 1000000000
 seen : 0 ≤ m.2.2.2.2.2.2.2.1 ∧ m.2.2.2.2.2.2.2.1 ≤ 60
 line : 0 ≤ m.2.2.2.2.2.2.2.2.1 ∧ m.2.2.2.2.2.2.2.2.1 ≤ ((aruOf m.2.2.2.1 : Nat) : Int)
 heard : 0 ≤ m.2.2.2.2.2.2.2.2.2.1 ∧ m.2.2.2.2.2.2.2.2.2.1 ≤ ((aruOf m.2.2.2.1 : Nat) : Int)
 last : Blank (m.2.2.2.2.2.2.2.2.2.2.1, m.2.2.2.2.2.2.2.2.2.2.2.1, m.2.2.2.2.2.2.2.2.2.2.2.2.1, m.2.2.2.2.2.2.2.2.2.2.2.2.2.1, m.2.2.2.2.2.2.2.2.2.2.2.2.2.2.1, m.2.2.2.2.2.2.2.2.2.2.2.2.2.2.2.1, ()) ∨ TokQ (m.2.2.2.2.2.2.2.2.2.2.1, m.2.2.2.2.2.2.2.2.2.2.2.1, m.2.2.2.2.2.2.2.2.2.2.2.2.1, m.2.2.2.2.2.2.2.2.2.2.2.2.2.1, m.2.2.2.2.2.2.2.2.2.2.2.2.2.2.1, m.2.2.2.2.2.2.2.2.2.2.2.2.2.2.2.1, ())
def MatW (m : MatR) : Nat := (List.length m.2.2.1 + wl W_i m.2.2.1) + (List.length m.2.2.2.1 + wl W_iiis m.2.2.2.1) + (List.length m.2.2.2.2.1 + wl W_i m.2.2.2.2.1) + (List.length m.2.2.2.2.2.1 + wl W_s m.2.2.2.2.2.1) + (List.length m.2.2.2.2.2.2.2.2.2.2.2.2.2.2.2.1 + wl W_i m.2.2.2.2.2.2.2.2.2.2.2.2.2.2.2.1)
noncomputable def matB (m : MatR) : Bool := match spec_MateOk m.1 m.2.1 m.2.2.1 m.2.2.2.1 m.2.2.2.2.1 m.2.2.2.2.2.1 m.2.2.2.2.2.2.1 m.2.2.2.2.2.2.2.1 m.2.2.2.2.2.2.2.2.1 m.2.2.2.2.2.2.2.2.2.1 m.2.2.2.2.2.2.2.2.2.2.1 m.2.2.2.2.2.2.2.2.2.2.2.1 m.2.2.2.2.2.2.2.2.2.2.2.2.1 m.2.2.2.2.2.2.2.2.2.2.2.2.2.1 m.2.2.2.2.2.2.2.2.2.2.2.2.2.2.1 m.2.2.2.2.2.2.2.2.2.2.2.2.2.2.2.1 with | some x => x.1 | none => false
theorem mat_ok (m : MatR) (h0 : MatW m ≤ 1048576) : spec_MateOk m.1 m.2.1 m.2.2.1 m.2.2.2.1 m.2.2.2.2.1 m.2.2.2.2.2.1 m.2.2.2.2.2.2.1 m.2.2.2.2.2.2.2.1 m.2.2.2.2.2.2.2.2.1 m.2.2.2.2.2.2.2.2.2.1 m.2.2.2.2.2.2.2.2.2.2.1 m.2.2.2.2.2.2.2.2.2.2.2.1 m.2.2.2.2.2.2.2.2.2.2.2.2.1 m.2.2.2.2.2.2.2.2.2.2.2.2.2.1 m.2.2.2.2.2.2.2.2.2.2.2.2.2.2.1 m.2.2.2.2.2.2.2.2.2.2.2.2.2.2.2.1 = some (matB m, ()) ∧ impl_MateOk m.1 m.2.1 m.2.2.1 m.2.2.2.1 m.2.2.2.2.1 m.2.2.2.2.2.1 m.2.2.2.2.2.2.1 m.2.2.2.2.2.2.2.1 m.2.2.2.2.2.2.2.2.1 m.2.2.2.2.2.2.2.2.2.1 m.2.2.2.2.2.2.2.2.2.2.1 m.2.2.2.2.2.2.2.2.2.2.2.1 m.2.2.2.2.2.2.2.2.2.2.2.2.1 m.2.2.2.2.2.2.2.2.2.2.2.2.2.1 m.2.2.2.2.2.2.2.2.2.2.2.2.2.2.1 m.2.2.2.2.2.2.2.2.2.2.2.2.2.2.2.1 = some (matB m, ()) ∧ (matB m = true ↔ MatQ m) := by
 obtain ⟨b, k1, k2⟩ := same_MateOk m.1 m.2.1 m.2.2.1 m.2.2.2.1 m.2.2.2.2.1 m.2.2.2.2.2.1 m.2.2.2.2.2.2.1 m.2.2.2.2.2.2.2.1 m.2.2.2.2.2.2.2.2.1 m.2.2.2.2.2.2.2.2.2.1 m.2.2.2.2.2.2.2.2.2.2.1 m.2.2.2.2.2.2.2.2.2.2.2.1 m.2.2.2.2.2.2.2.2.2.2.2.2.1 m.2.2.2.2.2.2.2.2.2.2.2.2.2.1 m.2.2.2.2.2.2.2.2.2.2.2.2.2.2.1 m.2.2.2.2.2.2.2.2.2.2.2.2.2.2.2.1 h0; have hb : matB m = b := by unfold matB; rw [k1]
 rw [hb]; refine ⟨k1, k2, ?_⟩; unfold MatW at h0; obtain ⟨r1, _, r3⟩ := ring_ok m.2.1 m.2.2.1 (by omega); have c1 := in_spec m.2.2.1 m.1 (by omega); obtain ⟨i1, _, i3⟩ := items_ok m.2.2.2.1 (by omega); obtain ⟨b4, t1, t2⟩ := texts_spec m.2.2.2.2.1 m.2.2.2.2.2.1 (by omega) (by omega); obtain ⟨a1, a2, a3⟩ := aru_ok m.2.2.2.1 (by omega); have z1 : spec_l10Blank m.2.2.2.2.2.2.2.2.2.2.1 m.2.2.2.2.2.2.2.2.2.2.2.1 m.2.2.2.2.2.2.2.2.2.2.2.2.1 m.2.2.2.2.2.2.2.2.2.2.2.2.2.1 m.2.2.2.2.2.2.2.2.2.2.2.2.2.2.1 m.2.2.2.2.2.2.2.2.2.2.2.2.2.2.2.1 = some (blankB (m.2.2.2.2.2.2.2.2.2.2.1, m.2.2.2.2.2.2.2.2.2.2.2.1, m.2.2.2.2.2.2.2.2.2.2.2.2.1, m.2.2.2.2.2.2.2.2.2.2.2.2.2.1, m.2.2.2.2.2.2.2.2.2.2.2.2.2.2.1, m.2.2.2.2.2.2.2.2.2.2.2.2.2.2.2.1, ()), ()) := (blank_ok (m.2.2.2.2.2.2.2.2.2.2.1, m.2.2.2.2.2.2.2.2.2.2.2.1, m.2.2.2.2.2.2.2.2.2.2.2.2.1, m.2.2.2.2.2.2.2.2.2.2.2.2.2.1, m.2.2.2.2.2.2.2.2.2.2.2.2.2.2.1, m.2.2.2.2.2.2.2.2.2.2.2.2.2.2.2.1, ())).1; have z3 := (blank_ok (m.2.2.2.2.2.2.2.2.2.2.1, m.2.2.2.2.2.2.2.2.2.2.2.1, m.2.2.2.2.2.2.2.2.2.2.2.2.1, m.2.2.2.2.2.2.2.2.2.2.2.2.2.1, m.2.2.2.2.2.2.2.2.2.2.2.2.2.2.1, m.2.2.2.2.2.2.2.2.2.2.2.2.2.2.2.1, ())).2.2; have w1 : spec_TokenOk m.2.2.2.2.2.2.2.2.2.2.1 m.2.2.2.2.2.2.2.2.2.2.2.1 m.2.2.2.2.2.2.2.2.2.2.2.2.1 m.2.2.2.2.2.2.2.2.2.2.2.2.2.1 m.2.2.2.2.2.2.2.2.2.2.2.2.2.2.1 m.2.2.2.2.2.2.2.2.2.2.2.2.2.2.2.1 = some (tokB (m.2.2.2.2.2.2.2.2.2.2.1, m.2.2.2.2.2.2.2.2.2.2.2.1, m.2.2.2.2.2.2.2.2.2.2.2.2.1, m.2.2.2.2.2.2.2.2.2.2.2.2.2.1, m.2.2.2.2.2.2.2.2.2.2.2.2.2.2.1, m.2.2.2.2.2.2.2.2.2.2.2.2.2.2.2.1, ()), ()) := (tok_ok (m.2.2.2.2.2.2.2.2.2.2.1, m.2.2.2.2.2.2.2.2.2.2.2.1, m.2.2.2.2.2.2.2.2.2.2.2.2.1, m.2.2.2.2.2.2.2.2.2.2.2.2.2.1, m.2.2.2.2.2.2.2.2.2.2.2.2.2.2.1, m.2.2.2.2.2.2.2.2.2.2.2.2.2.2.2.1, ()) (by show m.2.2.2.2.2.2.2.2.2.2.2.2.2.2.2.1.length ≤ _; omega)).1; have w3 := (tok_ok (m.2.2.2.2.2.2.2.2.2.2.1, m.2.2.2.2.2.2.2.2.2.2.2.1, m.2.2.2.2.2.2.2.2.2.2.2.2.1, m.2.2.2.2.2.2.2.2.2.2.2.2.2.1, m.2.2.2.2.2.2.2.2.2.2.2.2.2.2.1, m.2.2.2.2.2.2.2.2.2.2.2.2.2.2.2.1, ()) (by show m.2.2.2.2.2.2.2.2.2.2.2.2.2.2.2.1.length ≤ _; omega)).2.2; unfold spec_MateOk at k1; simp only [r1, c1, i1, t1, a1, z1, w1, in_eq, Option.bind_some] at k1
 cases e1 : ringB m.2.1 m.2.2.1
 · rw [e1] at k1; injection k1 with k1; injection k1 with k1 _; subst k1; exact ⟨fun h => (by cases h), fun h => by rw [r3.2 h.ring] at e1; cases e1⟩
 by_cases e2 : (m.1, ()) ∈ m.2.2.1
 case neg =>
   rw [e1, dec_false e2] at k1; injection k1 with k1; injection k1 with k1 _; subst k1; exact ⟨fun h => (by cases h), fun h => absurd h.mem e2⟩
 cases e3 : itemsB m.2.2.2.1
 · rw [e1, dec_true e2, e3] at k1; injection k1 with k1; injection k1 with k1 _; subst k1; exact ⟨fun h => (by cases h), fun h => by rw [i3.2 h.items] at e3; cases e3⟩
 cases b4
 · rw [e1, dec_true e2, e3] at k1; injection k1 with k1; injection k1 with k1 _; subst k1; exact ⟨fun h => (by cases h), fun h => by have := t2.2 ⟨h.texts.1, h.texts.2, h.lev, h.short⟩; cases this⟩
 rw [e1, dec_true e2, e3] at k1; simp only [Bool.not_true, cond_false] at k1
 cases e5 : (decide ((0 : Int) ≤ m.2.2.2.2.2.2.1) && decide (m.2.2.2.2.2.2.1 ≤ 1000000000))
 · rw [e5] at k1; injection k1 with k1; injection k1 with k1 _; subst k1; exact ⟨fun h => (by cases h), fun h => by rw [and_iff.2 h.round] at e5; cases e5⟩
 cases e6 : (decide ((0 : Int) ≤ m.2.2.2.2.2.2.2.1) && decide (m.2.2.2.2.2.2.2.1 ≤ 60))
 · rw [e5, e6] at k1; injection k1 with k1; injection k1 with k1 _; subst k1; exact ⟨fun h => (by cases h), fun h => by rw [and_iff.2 h.seen] at e6; cases e6⟩
 cases e8 : (decide ((0 : Int) ≤ m.2.2.2.2.2.2.2.2.1) && decide (m.2.2.2.2.2.2.2.2.1 ≤ ((aruOf m.2.2.2.1 : Nat) : Int)))
 · rw [e5, e6, e8] at k1; injection k1 with k1; injection k1 with k1 _; subst k1; exact ⟨fun h => (by cases h), fun h => by rw [and_iff.2 h.line] at e8; cases e8⟩
 cases e9 : (decide ((0 : Int) ≤ m.2.2.2.2.2.2.2.2.2.1) && decide (m.2.2.2.2.2.2.2.2.2.1 ≤ ((aruOf m.2.2.2.1 : Nat) : Int)))
 · rw [e5, e6, e8, e9] at k1; injection k1 with k1; injection k1 with k1 _; subst k1; exact ⟨fun h => (by cases h), fun h => by rw [and_iff.2 h.heard] at e9; cases e9⟩
 rw [e5, e6, e8, e9] at k1; obtain ⟨t3, t4, t5, t6⟩ := t2.1 rfl; have mk : (Blank (m.2.2.2.2.2.2.2.2.2.2.1, m.2.2.2.2.2.2.2.2.2.2.2.1, m.2.2.2.2.2.2.2.2.2.2.2.2.1, m.2.2.2.2.2.2.2.2.2.2.2.2.2.1, m.2.2.2.2.2.2.2.2.2.2.2.2.2.2.1, m.2.2.2.2.2.2.2.2.2.2.2.2.2.2.2.1, ()) ∨ TokQ (m.2.2.2.2.2.2.2.2.2.2.1, m.2.2.2.2.2.2.2.2.2.2.2.1, m.2.2.2.2.2.2.2.2.2.2.2.2.1, m.2.2.2.2.2.2.2.2.2.2.2.2.2.1, m.2.2.2.2.2.2.2.2.2.2.2.2.2.2.1, m.2.2.2.2.2.2.2.2.2.2.2.2.2.2.2.1, ())) → MatQ m := fun hl => ⟨r3.1 e1, e2, i3.1 e3, ⟨t3, t4⟩, t5, t6, and_of e5, and_of e6, and_of e8, and_of e9, hl⟩
 cases e10 : blankB (m.2.2.2.2.2.2.2.2.2.2.1, m.2.2.2.2.2.2.2.2.2.2.2.1, m.2.2.2.2.2.2.2.2.2.2.2.2.1, m.2.2.2.2.2.2.2.2.2.2.2.2.2.1, m.2.2.2.2.2.2.2.2.2.2.2.2.2.2.1, m.2.2.2.2.2.2.2.2.2.2.2.2.2.2.2.1, ())
 · rw [e10] at k1
   cases e11 : tokB (m.2.2.2.2.2.2.2.2.2.2.1, m.2.2.2.2.2.2.2.2.2.2.2.1, m.2.2.2.2.2.2.2.2.2.2.2.2.1, m.2.2.2.2.2.2.2.2.2.2.2.2.2.1, m.2.2.2.2.2.2.2.2.2.2.2.2.2.2.1, m.2.2.2.2.2.2.2.2.2.2.2.2.2.2.2.1, ())
   · rw [e11] at k1; injection k1 with k1; injection k1 with k1 _; subst k1; refine ⟨fun h => (by cases h), fun h => ?_⟩; rcases h.last with q | q
     · rw [z3.2 q] at e10; cases e10
     · rw [w3.2 q] at e11; cases e11
   · rw [e11] at k1; injection k1 with k1; injection k1 with k1 _; subst k1; exact ⟨fun _ => mk (.inr (w3.1 e11)), fun _ => rfl⟩
 · rw [e10] at k1; injection k1 with k1; injection k1 with k1 _; subst k1; exact ⟨fun _ => mk (.inl (z3.1 e10)), fun _ => rfl⟩
theorem MatQ.small {m : MatR} (h : MatQ m) : MatW m ≤ 5000 := by
 have h1 := items_small _ h.items; have h2 := texts_small _ h.short; have h3 := h.texts; have h4 := h.ring.2.1; have h5 : m.2.2.2.2.2.2.2.2.2.2.2.2.2.2.2.1.length ≤ 20 := by
   rcases h.last with q | q
   · rw [show m.2.2.2.2.2.2.2.2.2.2.2.2.2.2.2.1 = [] from q.2.2.2.2.2]; exact Nat.zero_le _
   · exact q.2.2.2.2.2.1
 unfold MatW; rw [wl_zero W_i (fun _ => rfl), wl_zero W_i (fun _ => rfl), wl_zero W_i (fun _ => rfl)]; omega
end Go.TM
