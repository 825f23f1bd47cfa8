/- Wake and SayDaemon, of the program and of the reference. -/
import Derived.Test.YtmljblppihbkdaaGreatBPRecD
set_option linter.unusedSimpArgs false
set_option linter.unusedVariables false
namespace Go.TM
open Go

/-! ### Copies of daemons -/
theorem copyBundle_eq (b : BunR) (h : b.2.2.2.1.length ≤ 1048576) : spec_l13CopyBundle b.1 b.2.1 b.2.2.1 b.2.2.2.1 = some b ∧ impl_copyBundle b.1 b.2.1 b.2.2.1 b.2.2.2.1 = some b := by
  constructor
  · unfold spec_l13CopyBundle
    rw [ble_true (show (0 + b.2.2.2.1.length) * 40 ≤ lim by unfold lim; omega)]
    rfl
  · unfold impl_copyBundle
    rw [clone_items _ h]
    rfl
theorem copyBundles_spec (xs : List BunR) (h : xs.length + wl W_iiiLiiisE xs ≤ 1048576) : spec_l13CopyBundles xs = some (xs, ()) := by
  have hl := loop_run (round := spec_l13CopyBundles_r0) (e := .inl (xs, ())) xs.length (fun k => (xs, xs.take k, ((k : Nat) : Int), ())) (by
    simp only [spec_l13CopyBundles_r0, spec_l13CopyBundles_c0, lt_nat_irr, cond_false, List.take_length]) (fun k hk => by
    simp only [spec_l13CopyBundles_r0, spec_l13CopyBundles_c0, lt_nat_true hk, zero_le_nat, cond_true, toNat_nat, List.getElem?_eq_getElem hk, Option.bind_some, (copyBundle_eq xs[k] (buns_len xs hk h)).1, List.length_take, Nat.min_eq_left (Nat.le_of_lt hk), ble_true (show (k + 1) * 48 ≤ lim by unfold lim; omega), succ_wrap (show k < 4611686018427387904 by omega)]
    rw [List.take_succ_eq_append_getElem hk])
  have hl : loopV spec_l13CopyBundles_r0 (xs, [], (0 : Int), ()) = _ := hl
  unfold spec_l13CopyBundles
  rw [hl]
  rfl
theorem copyBundles_impl (xs : List BunR) (h : xs.length + wl W_iiiLiiisE xs ≤ 1048576) : impl_copyBundles xs = some (xs, ()) := by
  have hl := loop_run (round := impl_copyBundles_r0) (e := .inl (xs, ())) xs.length (fun k => (xs.take k, xs, ((xs.length : Nat) : Int), ((k : Nat) : Int), ())) (by
    simp only [impl_copyBundles_r0, impl_copyBundles_c0, lt_nat_irr, cond_false, List.take_length]) (fun k hk => by
    simp only [impl_copyBundles_r0, impl_copyBundles_c0, lt_nat_true hk, zero_le_nat, cond_true, toNat_nat, List.getElem?_eq_getElem hk, Option.bind_some, (copyBundle_eq xs[k] (buns_len xs hk h)).2, List.length_take, Nat.min_eq_left (Nat.le_of_lt hk), ble_true (show (k + 1) * 48 ≤ lim by unfold lim; omega), succ_wrap (show k < 4611686018427387904 by omega)]
    rw [List.take_succ_eq_append_getElem hk])
  have hl : loopV impl_copyBundles_r0 ([], xs, ((xs.length : Nat) : Int), (0 : Int), ()) = _ := hl
  unfold impl_copyBundles
  rw [hl]
  rfl
theorem copyRing_impl (c : Int) (xs : MemL) (h : xs.length ≤ 1048576) : impl_copyRing c xs = some (c, xs, ()) := by
  unfold impl_copyRing
  rw [clone_int _ h]
  rfl
theorem copyDae (d : DaeM) (h : DaeW d ≤ 1048576) : spec_l14Copy d.1 d.2.1 d.2.2.1 d.2.2.2.1 d.2.2.2.2.1 d.2.2.2.2.2.1 d.2.2.2.2.2.2.1 d.2.2.2.2.2.2.2.1 d.2.2.2.2.2.2.2.2.1 d.2.2.2.2.2.2.2.2.2.1 d.2.2.2.2.2.2.2.2.2.2.1 d.2.2.2.2.2.2.2.2.2.2.2.1 d.2.2.2.2.2.2.2.2.2.2.2.2.1 d.2.2.2.2.2.2.2.2.2.2.2.2.2.1 d.2.2.2.2.2.2.2.2.2.2.2.2.2.2.1 d.2.2.2.2.2.2.2.2.2.2.2.2.2.2.2.1 d.2.2.2.2.2.2.2.2.2.2.2.2.2.2.2.2.1 d.2.2.2.2.2.2.2.2.2.2.2.2.2.2.2.2.2.1 d.2.2.2.2.2.2.2.2.2.2.2.2.2.2.2.2.2.2.1 d.2.2.2.2.2.2.2.2.2.2.2.2.2.2.2.2.2.2.2.1 d.2.2.2.2.2.2.2.2.2.2.2.2.2.2.2.2.2.2.2.2.1 d.2.2.2.2.2.2.2.2.2.2.2.2.2.2.2.2.2.2.2.2.2.1 d.2.2.2.2.2.2.2.2.2.2.2.2.2.2.2.2.2.2.2.2.2.2.1 d.2.2.2.2.2.2.2.2.2.2.2.2.2.2.2.2.2.2.2.2.2.2.2.1 = some d ∧ impl_copyDaemon d.1 d.2.1 d.2.2.1 d.2.2.2.1 d.2.2.2.2.1 d.2.2.2.2.2.1 d.2.2.2.2.2.2.1 d.2.2.2.2.2.2.2.1 d.2.2.2.2.2.2.2.2.1 d.2.2.2.2.2.2.2.2.2.1 d.2.2.2.2.2.2.2.2.2.2.1 d.2.2.2.2.2.2.2.2.2.2.2.1 d.2.2.2.2.2.2.2.2.2.2.2.2.1 d.2.2.2.2.2.2.2.2.2.2.2.2.2.1 d.2.2.2.2.2.2.2.2.2.2.2.2.2.2.1 d.2.2.2.2.2.2.2.2.2.2.2.2.2.2.2.1 d.2.2.2.2.2.2.2.2.2.2.2.2.2.2.2.2.1 d.2.2.2.2.2.2.2.2.2.2.2.2.2.2.2.2.2.1 d.2.2.2.2.2.2.2.2.2.2.2.2.2.2.2.2.2.2.1 d.2.2.2.2.2.2.2.2.2.2.2.2.2.2.2.2.2.2.2.1 d.2.2.2.2.2.2.2.2.2.2.2.2.2.2.2.2.2.2.2.2.1 d.2.2.2.2.2.2.2.2.2.2.2.2.2.2.2.2.2.2.2.2.2.1 d.2.2.2.2.2.2.2.2.2.2.2.2.2.2.2.2.2.2.2.2.2.2.1 d.2.2.2.2.2.2.2.2.2.2.2.2.2.2.2.2.2.2.2.2.2.2.2.1 = some d := by
  have h0 := h
  unfold DaeW at h0
  have p : spec_l10Copy d.2.2.1 d.2.2.2.1 d.2.2.2.2.1 d.2.2.2.2.2.1 d.2.2.2.2.2.2.1 d.2.2.2.2.2.2.2.1 d.2.2.2.2.2.2.2.2.1 d.2.2.2.2.2.2.2.2.2.1 d.2.2.2.2.2.2.2.2.2.2.1 d.2.2.2.2.2.2.2.2.2.2.2.1 d.2.2.2.2.2.2.2.2.2.2.2.2.1 d.2.2.2.2.2.2.2.2.2.2.2.2.2.1 d.2.2.2.2.2.2.2.2.2.2.2.2.2.2.1 d.2.2.2.2.2.2.2.2.2.2.2.2.2.2.2.1 d.2.2.2.2.2.2.2.2.2.2.2.2.2.2.2.2.1 d.2.2.2.2.2.2.2.2.2.2.2.2.2.2.2.2.2.1 = some (d.2.2.1, d.2.2.2.1, d.2.2.2.2.1, d.2.2.2.2.2.1, d.2.2.2.2.2.2.1, d.2.2.2.2.2.2.2.1, d.2.2.2.2.2.2.2.2.1, d.2.2.2.2.2.2.2.2.2.1, d.2.2.2.2.2.2.2.2.2.2.1, d.2.2.2.2.2.2.2.2.2.2.2.1, d.2.2.2.2.2.2.2.2.2.2.2.2.1, d.2.2.2.2.2.2.2.2.2.2.2.2.2.1, d.2.2.2.2.2.2.2.2.2.2.2.2.2.2.1, d.2.2.2.2.2.2.2.2.2.2.2.2.2.2.2.1, d.2.2.2.2.2.2.2.2.2.2.2.2.2.2.2.2.1, d.2.2.2.2.2.2.2.2.2.2.2.2.2.2.2.2.2.1, ()) ∧ impl_copyMate d.2.2.1 d.2.2.2.1 d.2.2.2.2.1 d.2.2.2.2.2.1 d.2.2.2.2.2.2.1 d.2.2.2.2.2.2.2.1 d.2.2.2.2.2.2.2.2.1 d.2.2.2.2.2.2.2.2.2.1 d.2.2.2.2.2.2.2.2.2.2.1 d.2.2.2.2.2.2.2.2.2.2.2.1 d.2.2.2.2.2.2.2.2.2.2.2.2.1 d.2.2.2.2.2.2.2.2.2.2.2.2.2.1 d.2.2.2.2.2.2.2.2.2.2.2.2.2.2.1 d.2.2.2.2.2.2.2.2.2.2.2.2.2.2.2.1 d.2.2.2.2.2.2.2.2.2.2.2.2.2.2.2.2.1 d.2.2.2.2.2.2.2.2.2.2.2.2.2.2.2.2.2.1 = some (d.2.2.1, d.2.2.2.1, d.2.2.2.2.1, d.2.2.2.2.2.1, d.2.2.2.2.2.2.1, d.2.2.2.2.2.2.2.1, d.2.2.2.2.2.2.2.2.1, d.2.2.2.2.2.2.2.2.2.1, d.2.2.2.2.2.2.2.2.2.2.1, d.2.2.2.2.2.2.2.2.2.2.2.1, d.2.2.2.2.2.2.2.2.2.2.2.2.1, d.2.2.2.2.2.2.2.2.2.2.2.2.2.1, d.2.2.2.2.2.2.2.2.2.2.2.2.2.2.1, d.2.2.2.2.2.2.2.2.2.2.2.2.2.2.2.1, d.2.2.2.2.2.2.2.2.2.2.2.2.2.2.2.2.1, d.2.2.2.2.2.2.2.2.2.2.2.2.2.2.2.2.2.1, ()) := copyMate_eq d.2.2.1 d.2.2.2.1 d.2.2.2.2.1 d.2.2.2.2.2.1 d.2.2.2.2.2.2.1 d.2.2.2.2.2.2.2.1 d.2.2.2.2.2.2.2.2.1 d.2.2.2.2.2.2.2.2.2.1 d.2.2.2.2.2.2.2.2.2.2.1 d.2.2.2.2.2.2.2.2.2.2.2.1 d.2.2.2.2.2.2.2.2.2.2.2.2.1 d.2.2.2.2.2.2.2.2.2.2.2.2.2.1 d.2.2.2.2.2.2.2.2.2.2.2.2.2.2.1 d.2.2.2.2.2.2.2.2.2.2.2.2.2.2.2.1 d.2.2.2.2.2.2.2.2.2.2.2.2.2.2.2.2.1 d.2.2.2.2.2.2.2.2.2.2.2.2.2.2.2.2.2.1 (by omega)
  constructor
  · unfold spec_l14Copy
    simp only [p.1, copyBundles_spec d.2.2.2.2.2.2.2.2.2.2.2.2.2.2.2.2.2.2.2.2.2.2.1 (by omega), copyEvents_spec d.2.2.2.2.2.2.2.2.2.2.2.2.2.2.2.2.2.2.2.2.2.2.2.1 (by omega), Option.bind_some, ble_true (show (0 + (d.2.2.2.2.2.2.2.2.2.2.2.2.2.2.2.2.2.2.2.2.2.1).length) * 8 ≤ lim by unfold lim; omega), cond_true, List.nil_append]
  · unfold impl_copyDaemon
    simp only [p.2, copyBundles_impl d.2.2.2.2.2.2.2.2.2.2.2.2.2.2.2.2.2.2.2.2.2.2.1 (by omega), copyEvents_impl d.2.2.2.2.2.2.2.2.2.2.2.2.2.2.2.2.2.2.2.2.2.2.2.1 (by omega), copyRing_impl d.2.2.2.2.2.2.2.2.2.2.2.2.2.2.2.2.2.2.2.2.1 d.2.2.2.2.2.2.2.2.2.2.2.2.2.2.2.2.2.2.2.2.2.1 (by omega), Option.bind_some]
def zeroDae : DaeM := (0, false, 0, 0, [], [], [], [], 0, 0, 0, 0, 0, 0, 0, 0, 0, [], 0, 0, 0, [], [], [], ())

/-! ### Wake -/
def wokeR (d : DaeM) : DaeM := (d.1, false, d.2.2)
noncomputable def wakeR (d : DaeM) : DaeM × Bool := bif daeB d && d.2.1 then (wokeR d, true) else (zeroDae, false)
theorem wake_size (d : DaeM) (h : DaeW d ≤ 1048576) : DaeW (wakeR d).1 ≤ 1048576 := by
  unfold wakeR
  cases daeB d && d.2.1
  · show DaeW zeroDae ≤ 1048576
    decide
  · exact h

/-! ### Say -/
def zeroMat : MatR := (0, 0, [], [], [], [], 0, 0, 0, 0, 0, 0, 0, 0, 0, [], ())
def saidR (m : MatR) (level : Int) (text : ByteArray) : MatR := (m.1, m.2.1, m.2.2.1, m.2.2.2.1, m.2.2.2.2.1 ++ [(level, ())], m.2.2.2.2.2.1 ++ [(text, ())], m.2.2.2.2.2.2)
noncomputable def mayB (m : MatR) (level : Int) (text : ByteArray) : Bool := matB m && ((decide (1 ≤ level) && decide (level ≤ 2)) && (decide (ByteArray.size text ≤ 60) && decide (m.2.2.2.2.2.1.length < 20)))
noncomputable def sayR (m : MatR) (level : Int) (text : ByteArray) : MatR × Bool := bif mayB m level text then (saidR m level text, true) else (zeroMat, false)
theorem say_same (m : MatR) (level : Int) (text : ByteArray) (h : MatW m ≤ 1048576) : spec_Say m.1 m.2.1 m.2.2.1 m.2.2.2.1 m.2.2.2.2.1 m.2.2.2.2.2.1 m.2.2.2.2.2.2.1 m.2.2.2.2.2.2.2.1 m.2.2.2.2.2.2.2.2.1 m.2.2.2.2.2.2.2.2.2.1 m.2.2.2.2.2.2.2.2.2.2.1 m.2.2.2.2.2.2.2.2.2.2.2.1 m.2.2.2.2.2.2.2.2.2.2.2.2.1 m.2.2.2.2.2.2.2.2.2.2.2.2.2.1 m.2.2.2.2.2.2.2.2.2.2.2.2.2.2.1 m.2.2.2.2.2.2.2.2.2.2.2.2.2.2.2.1 level text = some ((sayR m level text).1.1, (sayR m level text).1.2.1, (sayR m level text).1.2.2.1, (sayR m level text).1.2.2.2.1, (sayR m level text).1.2.2.2.2.1, (sayR m level text).1.2.2.2.2.2.1, (sayR m level text).1.2.2.2.2.2.2.1, (sayR m level text).1.2.2.2.2.2.2.2.1, (sayR m level text).1.2.2.2.2.2.2.2.2.1, (sayR m level text).1.2.2.2.2.2.2.2.2.2.1, (sayR m level text).1.2.2.2.2.2.2.2.2.2.2.1, (sayR m level text).1.2.2.2.2.2.2.2.2.2.2.2.1, (sayR m level text).1.2.2.2.2.2.2.2.2.2.2.2.2.1, (sayR m level text).1.2.2.2.2.2.2.2.2.2.2.2.2.2.1, (sayR m level text).1.2.2.2.2.2.2.2.2.2.2.2.2.2.2.1, (sayR m level text).1.2.2.2.2.2.2.2.2.2.2.2.2.2.2.2.1, (sayR m level text).2, ()) ∧ impl_Say m.1 m.2.1 m.2.2.1 m.2.2.2.1 m.2.2.2.2.1 m.2.2.2.2.2.1 m.2.2.2.2.2.2.1 m.2.2.2.2.2.2.2.1 m.2.2.2.2.2.2.2.2.1 m.2.2.2.2.2.2.2.2.2.1 m.2.2.2.2.2.2.2.2.2.2.1 m.2.2.2.2.2.2.2.2.2.2.2.1 m.2.2.2.2.2.2.2.2.2.2.2.2.1 m.2.2.2.2.2.2.2.2.2.2.2.2.2.1 m.2.2.2.2.2.2.2.2.2.2.2.2.2.2.1 m.2.2.2.2.2.2.2.2.2.2.2.2.2.2.2.1 level text = some ((sayR m level text).1.1, (sayR m level text).1.2.1, (sayR m level text).1.2.2.1, (sayR m level text).1.2.2.2.1, (sayR m level text).1.2.2.2.2.1, (sayR m level text).1.2.2.2.2.2.1, (sayR m level text).1.2.2.2.2.2.2.1, (sayR m level text).1.2.2.2.2.2.2.2.1, (sayR m level text).1.2.2.2.2.2.2.2.2.1, (sayR m level text).1.2.2.2.2.2.2.2.2.2.1, (sayR m level text).1.2.2.2.2.2.2.2.2.2.2.1, (sayR m level text).1.2.2.2.2.2.2.2.2.2.2.2.1, (sayR m level text).1.2.2.2.2.2.2.2.2.2.2.2.2.1, (sayR m level text).1.2.2.2.2.2.2.2.2.2.2.2.2.2.1, (sayR m level text).1.2.2.2.2.2.2.2.2.2.2.2.2.2.2.1, (sayR m level text).1.2.2.2.2.2.2.2.2.2.2.2.2.2.2.2.1, (sayR m level text).2, ()) := by
  obtain ⟨k1, k2, k3⟩ := mat_ok m h
  obtain ⟨p1, p2⟩ := copyMate_eq m.1 m.2.1 m.2.2.1 m.2.2.2.1 m.2.2.2.2.1 m.2.2.2.2.2.1 m.2.2.2.2.2.2.1 m.2.2.2.2.2.2.2.1 m.2.2.2.2.2.2.2.2.1 m.2.2.2.2.2.2.2.2.2.1 m.2.2.2.2.2.2.2.2.2.2.1 m.2.2.2.2.2.2.2.2.2.2.2.1 m.2.2.2.2.2.2.2.2.2.2.2.2.1 m.2.2.2.2.2.2.2.2.2.2.2.2.2.1 m.2.2.2.2.2.2.2.2.2.2.2.2.2.2.1 m.2.2.2.2.2.2.2.2.2.2.2.2.2.2.2.1 h
  unfold spec_Say impl_Say sayR mayB
  simp only [k1, k2, p1, p2, in_eq, level_eq, Option.bind_some]
  cases hb : matB m
  · cases (decide (1 ≤ level) && decide (level ≤ 2))
    · exact ⟨rfl, rfl⟩
    cases decide ((60 : Int) < ((ByteArray.size text : Nat) : Int))
    · cases decide ((20 : Int) ≤ ((List.length m.2.2.2.2.2.1 : Nat) : Int))
      · exact ⟨rfl, rfl⟩
      · exact ⟨rfl, rfl⟩
    · exact ⟨rfl, rfl⟩
  have hs := (k3.1 hb).small
  unfold MatW at hs
  cases (decide (1 ≤ level) && decide (level ≤ 2))
  · exact ⟨rfl, rfl⟩
  by_cases w1 : ByteArray.size text ≤ 60
  case neg => rw [dec_false w1, dec_true (show (60 : Int) < ((ByteArray.size text : Nat) : Int) by omega)]; exact ⟨rfl, rfl⟩
  by_cases w2 : m.2.2.2.2.2.1.length < 20
  case neg => rw [dec_true w1, dec_false w2, dec_false (show ¬ (60 : Int) < ((ByteArray.size text : Nat) : Int) by omega), dec_true (show (20 : Int) ≤ ((List.length m.2.2.2.2.2.1 : Nat) : Int) by omega)]; exact ⟨rfl, rfl⟩
  rw [dec_true w1, dec_true w2, dec_false (show ¬ (60 : Int) < ((ByteArray.size text : Nat) : Int) by omega), dec_false (show ¬ (20 : Int) ≤ ((List.length m.2.2.2.2.2.1 : Nat) : Int) by omega)]
  simp only [Bool.not_true, cond_false, ble_true (show (m.2.2.2.2.1.length + 1) * 8 ≤ lim by unfold lim; omega), ble_true (show (m.2.2.2.2.2.1.length + 1) * 16 ≤ lim by unfold lim; omega), cond_true, Bool.and_true]
  exact ⟨rfl, rfl⟩
theorem say_small (m : MatR) (level : Int) (text : ByteArray) : MatW (sayR m level text).1 ≤ MatW m + 62 := by
  unfold sayR
  cases hb : mayB m level text
  · exact Nat.zero_le _
  · have ht : ByteArray.size text ≤ 60 := by
      unfold mayB at hb
      simp only [Bool.and_eq_true, decide_eq_true_eq] at hb
      exact hb.2.2.1
    show MatW (saidR m level text) ≤ MatW m + 62
    show (List.length m.2.2.1 + wl W_i m.2.2.1) + (List.length m.2.2.2.1 + wl W_iiis m.2.2.2.1) + (List.length (m.2.2.2.2.1 ++ [(level, ())]) + wl W_i (m.2.2.2.2.1 ++ [(level, ())])) + (List.length (m.2.2.2.2.2.1 ++ [(text, ())]) + wl W_s (m.2.2.2.2.2.1 ++ [(text, ())])) + (List.length m.2.2.2.2.2.2.2.2.2.2.2.2.2.2.2.1 + wl W_i m.2.2.2.2.2.2.2.2.2.2.2.2.2.2.2.1) ≤ MatW m + 62
    unfold MatW
    simp only [List.length_append, List.length_cons, List.length_nil, wl_app, wl_cons, wl_nil]
    have e1 : W_i (level, ()) = 0 := rfl
    have e2 : W_s (text, ()) = ByteArray.size text := rfl
    omega

/-! ### SayDaemon -/
def withMate (d : DaeM) (m : MatR) : DaeM := (d.1, d.2.1, m.1, m.2.1, m.2.2.1, m.2.2.2.1, m.2.2.2.2.1, m.2.2.2.2.2.1, m.2.2.2.2.2.2.1, m.2.2.2.2.2.2.2.1, m.2.2.2.2.2.2.2.2.1, m.2.2.2.2.2.2.2.2.2.1, m.2.2.2.2.2.2.2.2.2.2.1, m.2.2.2.2.2.2.2.2.2.2.2.1, m.2.2.2.2.2.2.2.2.2.2.2.2.1, m.2.2.2.2.2.2.2.2.2.2.2.2.2.1, m.2.2.2.2.2.2.2.2.2.2.2.2.2.2.1, m.2.2.2.2.2.2.2.2.2.2.2.2.2.2.2.1, d.2.2.2.2.2.2.2.2.2.2.2.2.2.2.2.2.2.2.1, d.2.2.2.2.2.2.2.2.2.2.2.2.2.2.2.2.2.2.2.1, d.2.2.2.2.2.2.2.2.2.2.2.2.2.2.2.2.2.2.2.2.1, d.2.2.2.2.2.2.2.2.2.2.2.2.2.2.2.2.2.2.2.2.2.1, d.2.2.2.2.2.2.2.2.2.2.2.2.2.2.2.2.2.2.2.2.2.2.1, d.2.2.2.2.2.2.2.2.2.2.2.2.2.2.2.2.2.2.2.2.2.2.2.1, ())
noncomputable def sayDaeR (d : DaeM) (level : Int) (text : ByteArray) : DaeM × Bool :=
  bif daeB d && (!d.2.1 && (!decide (d.2.2.2.2.2.2.2.2.2.2.2.2.2.2.2.2.2.2.2.1 = 0) && (sayR (mateOf d) level text).2)) then (withMate d (sayR (mateOf d) level text).1, true) else (zeroDae, false)
theorem mateW (d : DaeM) : MatW (mateOf d) ≤ DaeW d := by
  unfold DaeW
  show (List.length d.2.2.2.2.1 + wl W_i d.2.2.2.2.1) + (List.length d.2.2.2.2.2.1 + wl W_iiis d.2.2.2.2.2.1) + (List.length d.2.2.2.2.2.2.1 + wl W_i d.2.2.2.2.2.2.1) + (List.length d.2.2.2.2.2.2.2.1 + wl W_s d.2.2.2.2.2.2.2.1) + (List.length d.2.2.2.2.2.2.2.2.2.2.2.2.2.2.2.2.2.1 + wl W_i d.2.2.2.2.2.2.2.2.2.2.2.2.2.2.2.2.2.1) ≤ _
  omega
theorem sayDae_same (d : DaeM) (level : Int) (text : ByteArray) (h : DaeW d ≤ 1048576) : spec_SayDaemon d.1 d.2.1 d.2.2.1 d.2.2.2.1 d.2.2.2.2.1 d.2.2.2.2.2.1 d.2.2.2.2.2.2.1 d.2.2.2.2.2.2.2.1 d.2.2.2.2.2.2.2.2.1 d.2.2.2.2.2.2.2.2.2.1 d.2.2.2.2.2.2.2.2.2.2.1 d.2.2.2.2.2.2.2.2.2.2.2.1 d.2.2.2.2.2.2.2.2.2.2.2.2.1 d.2.2.2.2.2.2.2.2.2.2.2.2.2.1 d.2.2.2.2.2.2.2.2.2.2.2.2.2.2.1 d.2.2.2.2.2.2.2.2.2.2.2.2.2.2.2.1 d.2.2.2.2.2.2.2.2.2.2.2.2.2.2.2.2.1 d.2.2.2.2.2.2.2.2.2.2.2.2.2.2.2.2.2.1 d.2.2.2.2.2.2.2.2.2.2.2.2.2.2.2.2.2.2.1 d.2.2.2.2.2.2.2.2.2.2.2.2.2.2.2.2.2.2.2.1 d.2.2.2.2.2.2.2.2.2.2.2.2.2.2.2.2.2.2.2.2.1 d.2.2.2.2.2.2.2.2.2.2.2.2.2.2.2.2.2.2.2.2.2.1 d.2.2.2.2.2.2.2.2.2.2.2.2.2.2.2.2.2.2.2.2.2.2.1 d.2.2.2.2.2.2.2.2.2.2.2.2.2.2.2.2.2.2.2.2.2.2.2.1 level text = some ((sayDaeR d level text).1.1, (sayDaeR d level text).1.2.1, (sayDaeR d level text).1.2.2.1, (sayDaeR d level text).1.2.2.2.1, (sayDaeR d level text).1.2.2.2.2.1, (sayDaeR d level text).1.2.2.2.2.2.1, (sayDaeR d level text).1.2.2.2.2.2.2.1, (sayDaeR d level text).1.2.2.2.2.2.2.2.1, (sayDaeR d level text).1.2.2.2.2.2.2.2.2.1, (sayDaeR d level text).1.2.2.2.2.2.2.2.2.2.1, (sayDaeR d level text).1.2.2.2.2.2.2.2.2.2.2.1, (sayDaeR d level text).1.2.2.2.2.2.2.2.2.2.2.2.1, (sayDaeR d level text).1.2.2.2.2.2.2.2.2.2.2.2.2.1, (sayDaeR d level text).1.2.2.2.2.2.2.2.2.2.2.2.2.2.1, (sayDaeR d level text).1.2.2.2.2.2.2.2.2.2.2.2.2.2.2.1, (sayDaeR d level text).1.2.2.2.2.2.2.2.2.2.2.2.2.2.2.2.1, (sayDaeR d level text).1.2.2.2.2.2.2.2.2.2.2.2.2.2.2.2.2.1, (sayDaeR d level text).1.2.2.2.2.2.2.2.2.2.2.2.2.2.2.2.2.2.1, (sayDaeR d level text).1.2.2.2.2.2.2.2.2.2.2.2.2.2.2.2.2.2.2.1, (sayDaeR d level text).1.2.2.2.2.2.2.2.2.2.2.2.2.2.2.2.2.2.2.2.1, (sayDaeR d level text).1.2.2.2.2.2.2.2.2.2.2.2.2.2.2.2.2.2.2.2.2.1, (sayDaeR d level text).1.2.2.2.2.2.2.2.2.2.2.2.2.2.2.2.2.2.2.2.2.2.1, (sayDaeR d level text).1.2.2.2.2.2.2.2.2.2.2.2.2.2.2.2.2.2.2.2.2.2.2.1, (sayDaeR d level text).1.2.2.2.2.2.2.2.2.2.2.2.2.2.2.2.2.2.2.2.2.2.2.2.1, (sayDaeR d level text).2, ()) ∧ impl_SayDaemon d.1 d.2.1 d.2.2.1 d.2.2.2.1 d.2.2.2.2.1 d.2.2.2.2.2.1 d.2.2.2.2.2.2.1 d.2.2.2.2.2.2.2.1 d.2.2.2.2.2.2.2.2.1 d.2.2.2.2.2.2.2.2.2.1 d.2.2.2.2.2.2.2.2.2.2.1 d.2.2.2.2.2.2.2.2.2.2.2.1 d.2.2.2.2.2.2.2.2.2.2.2.2.1 d.2.2.2.2.2.2.2.2.2.2.2.2.2.1 d.2.2.2.2.2.2.2.2.2.2.2.2.2.2.1 d.2.2.2.2.2.2.2.2.2.2.2.2.2.2.2.1 d.2.2.2.2.2.2.2.2.2.2.2.2.2.2.2.2.1 d.2.2.2.2.2.2.2.2.2.2.2.2.2.2.2.2.2.1 d.2.2.2.2.2.2.2.2.2.2.2.2.2.2.2.2.2.2.1 d.2.2.2.2.2.2.2.2.2.2.2.2.2.2.2.2.2.2.2.1 d.2.2.2.2.2.2.2.2.2.2.2.2.2.2.2.2.2.2.2.2.1 d.2.2.2.2.2.2.2.2.2.2.2.2.2.2.2.2.2.2.2.2.2.1 d.2.2.2.2.2.2.2.2.2.2.2.2.2.2.2.2.2.2.2.2.2.2.1 d.2.2.2.2.2.2.2.2.2.2.2.2.2.2.2.2.2.2.2.2.2.2.2.1 level text = some ((sayDaeR d level text).1.1, (sayDaeR d level text).1.2.1, (sayDaeR d level text).1.2.2.1, (sayDaeR d level text).1.2.2.2.1, (sayDaeR d level text).1.2.2.2.2.1, (sayDaeR d level text).1.2.2.2.2.2.1, (sayDaeR d level text).1.2.2.2.2.2.2.1, (sayDaeR d level text).1.2.2.2.2.2.2.2.1, (sayDaeR d level text).1.2.2.2.2.2.2.2.2.1, (sayDaeR d level text).1.2.2.2.2.2.2.2.2.2.1, (sayDaeR d level text).1.2.2.2.2.2.2.2.2.2.2.1, (sayDaeR d level text).1.2.2.2.2.2.2.2.2.2.2.2.1, (sayDaeR d level text).1.2.2.2.2.2.2.2.2.2.2.2.2.1, (sayDaeR d level text).1.2.2.2.2.2.2.2.2.2.2.2.2.2.1, (sayDaeR d level text).1.2.2.2.2.2.2.2.2.2.2.2.2.2.2.1, (sayDaeR d level text).1.2.2.2.2.2.2.2.2.2.2.2.2.2.2.2.1, (sayDaeR d level text).1.2.2.2.2.2.2.2.2.2.2.2.2.2.2.2.2.1, (sayDaeR d level text).1.2.2.2.2.2.2.2.2.2.2.2.2.2.2.2.2.2.1, (sayDaeR d level text).1.2.2.2.2.2.2.2.2.2.2.2.2.2.2.2.2.2.2.1, (sayDaeR d level text).1.2.2.2.2.2.2.2.2.2.2.2.2.2.2.2.2.2.2.2.1, (sayDaeR d level text).1.2.2.2.2.2.2.2.2.2.2.2.2.2.2.2.2.2.2.2.2.1, (sayDaeR d level text).1.2.2.2.2.2.2.2.2.2.2.2.2.2.2.2.2.2.2.2.2.2.1, (sayDaeR d level text).1.2.2.2.2.2.2.2.2.2.2.2.2.2.2.2.2.2.2.2.2.2.2.1, (sayDaeR d level text).1.2.2.2.2.2.2.2.2.2.2.2.2.2.2.2.2.2.2.2.2.2.2.2.1, (sayDaeR d level text).2, ()) := by
  obtain ⟨k1, k2, _⟩ := dae_ok d h
  obtain ⟨p1, p2⟩ := copyDae d h
  have s : spec_Say d.2.2.1 d.2.2.2.1 d.2.2.2.2.1 d.2.2.2.2.2.1 d.2.2.2.2.2.2.1 d.2.2.2.2.2.2.2.1 d.2.2.2.2.2.2.2.2.1 d.2.2.2.2.2.2.2.2.2.1 d.2.2.2.2.2.2.2.2.2.2.1 d.2.2.2.2.2.2.2.2.2.2.2.1 d.2.2.2.2.2.2.2.2.2.2.2.2.1 d.2.2.2.2.2.2.2.2.2.2.2.2.2.1 d.2.2.2.2.2.2.2.2.2.2.2.2.2.2.1 d.2.2.2.2.2.2.2.2.2.2.2.2.2.2.2.1 d.2.2.2.2.2.2.2.2.2.2.2.2.2.2.2.2.1 d.2.2.2.2.2.2.2.2.2.2.2.2.2.2.2.2.2.1 level text = some ((sayR (mateOf d) level text).1.1, (sayR (mateOf d) level text).1.2.1, (sayR (mateOf d) level text).1.2.2.1, (sayR (mateOf d) level text).1.2.2.2.1, (sayR (mateOf d) level text).1.2.2.2.2.1, (sayR (mateOf d) level text).1.2.2.2.2.2.1, (sayR (mateOf d) level text).1.2.2.2.2.2.2.1, (sayR (mateOf d) level text).1.2.2.2.2.2.2.2.1, (sayR (mateOf d) level text).1.2.2.2.2.2.2.2.2.1, (sayR (mateOf d) level text).1.2.2.2.2.2.2.2.2.2.1, (sayR (mateOf d) level text).1.2.2.2.2.2.2.2.2.2.2.1, (sayR (mateOf d) level text).1.2.2.2.2.2.2.2.2.2.2.2.1, (sayR (mateOf d) level text).1.2.2.2.2.2.2.2.2.2.2.2.2.1, (sayR (mateOf d) level text).1.2.2.2.2.2.2.2.2.2.2.2.2.2.1, (sayR (mateOf d) level text).1.2.2.2.2.2.2.2.2.2.2.2.2.2.2.1, (sayR (mateOf d) level text).1.2.2.2.2.2.2.2.2.2.2.2.2.2.2.2.1, (sayR (mateOf d) level text).2, ()) ∧ impl_Say d.2.2.1 d.2.2.2.1 d.2.2.2.2.1 d.2.2.2.2.2.1 d.2.2.2.2.2.2.1 d.2.2.2.2.2.2.2.1 d.2.2.2.2.2.2.2.2.1 d.2.2.2.2.2.2.2.2.2.1 d.2.2.2.2.2.2.2.2.2.2.1 d.2.2.2.2.2.2.2.2.2.2.2.1 d.2.2.2.2.2.2.2.2.2.2.2.2.1 d.2.2.2.2.2.2.2.2.2.2.2.2.2.1 d.2.2.2.2.2.2.2.2.2.2.2.2.2.2.1 d.2.2.2.2.2.2.2.2.2.2.2.2.2.2.2.1 d.2.2.2.2.2.2.2.2.2.2.2.2.2.2.2.2.1 d.2.2.2.2.2.2.2.2.2.2.2.2.2.2.2.2.2.1 level text = some ((sayR (mateOf d) level text).1.1, (sayR (mateOf d) level text).1.2.1, (sayR (mateOf d) level text).1.2.2.1, (sayR (mateOf d) level text).1.2.2.2.1, (sayR (mateOf d) level text).1.2.2.2.2.1, (sayR (mateOf d) level text).1.2.2.2.2.2.1, (sayR (mateOf d) level text).1.2.2.2.2.2.2.1, (sayR (mateOf d) level text).1.2.2.2.2.2.2.2.1, (sayR (mateOf d) level text).1.2.2.2.2.2.2.2.2.1, (sayR (mateOf d) level text).1.2.2.2.2.2.2.2.2.2.1, (sayR (mateOf d) level text).1.2.2.2.2.2.2.2.2.2.2.1, (sayR (mateOf d) level text).1.2.2.2.2.2.2.2.2.2.2.2.1, (sayR (mateOf d) level text).1.2.2.2.2.2.2.2.2.2.2.2.2.1, (sayR (mateOf d) level text).1.2.2.2.2.2.2.2.2.2.2.2.2.2.1, (sayR (mateOf d) level text).1.2.2.2.2.2.2.2.2.2.2.2.2.2.2.1, (sayR (mateOf d) level text).1.2.2.2.2.2.2.2.2.2.2.2.2.2.2.2.1, (sayR (mateOf d) level text).2, ()) := say_same (mateOf d) level text (Nat.le_trans (mateW d) h)
  unfold spec_SayDaemon impl_SayDaemon sayDaeR withMate
  simp only [k1, k2, p1, p2, s.1, s.2, Option.bind_some]
  generalize sayR (mateOf d) level text = q
  obtain ⟨m', b⟩ := q
  cases daeB d
  · cases d.2.1
    · cases decide (d.2.2.2.2.2.2.2.2.2.2.2.2.2.2.2.2.2.2.2.1 = 0)
      · exact ⟨rfl, rfl⟩
      · exact ⟨rfl, rfl⟩
    · exact ⟨rfl, rfl⟩
  · cases d.2.1
    · cases decide (d.2.2.2.2.2.2.2.2.2.2.2.2.2.2.2.2.2.2.2.1 = 0)
      · cases b
        · exact ⟨rfl, rfl⟩
        · exact ⟨rfl, rfl⟩
      · exact ⟨rfl, rfl⟩
    · exact ⟨rfl, rfl⟩
theorem sayDae_size (d : DaeM) (level : Int) (text : ByteArray) (h : DaeW d ≤ 1048576) : DaeW (sayDaeR d level text).1 ≤ 4194304 := by
  unfold sayDaeR
  cases daeB d && (!d.2.1 && (!decide (d.2.2.2.2.2.2.2.2.2.2.2.2.2.2.2.2.2.2.2.1 = 0) && (sayR (mateOf d) level text).2))
  · show DaeW zeroDae ≤ 4194304
    decide
  · have h1 := say_small (mateOf d) level text
    have h2 : MatW (mateOf d) = (List.length d.2.2.2.2.1 + wl W_i d.2.2.2.2.1) + (List.length d.2.2.2.2.2.1 + wl W_iiis d.2.2.2.2.2.1) + (List.length d.2.2.2.2.2.2.1 + wl W_i d.2.2.2.2.2.2.1) + (List.length d.2.2.2.2.2.2.2.1 + wl W_s d.2.2.2.2.2.2.2.1) + (List.length d.2.2.2.2.2.2.2.2.2.2.2.2.2.2.2.2.2.1 + wl W_i d.2.2.2.2.2.2.2.2.2.2.2.2.2.2.2.2.2.1) := rfl
    show DaeW (withMate d (sayR (mateOf d) level text).1) ≤ 4194304
    have e : DaeW (withMate d (sayR (mateOf d) level text).1) = MatW (sayR (mateOf d) level text).1 + (List.length d.2.2.2.2.2.2.2.2.2.2.2.2.2.2.2.2.2.2.2.2.2.1 + wl W_i d.2.2.2.2.2.2.2.2.2.2.2.2.2.2.2.2.2.2.2.2.2.1) + (List.length d.2.2.2.2.2.2.2.2.2.2.2.2.2.2.2.2.2.2.2.2.2.2.1 + wl W_iiiLiiisE d.2.2.2.2.2.2.2.2.2.2.2.2.2.2.2.2.2.2.2.2.2.2.1) + (List.length d.2.2.2.2.2.2.2.2.2.2.2.2.2.2.2.2.2.2.2.2.2.2.2.1 + wl W_iiLiEiiisLiE d.2.2.2.2.2.2.2.2.2.2.2.2.2.2.2.2.2.2.2.2.2.2.2.1) := rfl
    rw [e]
    unfold DaeW at h
    omega
end Go.TM
