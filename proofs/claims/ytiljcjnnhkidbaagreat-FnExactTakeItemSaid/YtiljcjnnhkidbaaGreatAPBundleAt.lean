/- The first right bundle of a daemon for a ring; those who go on together. -/
import Derived.Test.YtiljcjnnhkidbaaGreatAPCopyLog
set_option linter.unusedSimpArgs false
set_option linter.unusedVariables false
namespace Go.TM
open Go
theorem bundle_same (a b c : Int) (xs : List (Int × Int × Int × ByteArray × Unit)) (h : xs.length ≤ 1048576) : ∃ x, spec_BundleOk a b c xs = some (x, ()) ∧ impl_BundleOk a b c xs = some (x, ()) := by
 obtain ⟨y, h1, h2⟩ := items_same xs h; unfold spec_BundleOk impl_BundleOk; simp only [in_eq, in_eq', daemon_eq, Option.bind_some, h1, h2]
 cases (decide (1 ≤ a) && decide (a ≤ 5))
 · exact ⟨_, rfl, rfl⟩
 cases (decide (1 ≤ b) && decide (b ≤ 9))
 · exact ⟨_, rfl, rfl⟩
 cases (decide (0 ≤ c) && decide (c ≤ IntKind.i64.wrap (b - 1)))
 · exact ⟨_, rfl, rfl⟩
 cases y
 · exact ⟨_, rfl, rfl⟩
 cases decide (0 < c)
 · exact ⟨_, rfl, rfl⟩
 · exact ⟨_, rfl, rfl⟩
abbrev BunR : Type := Int × Int × Int × ItemL × Unit
noncomputable def bunOk (b : BunR) : Bool := match spec_BundleOk b.1 b.2.1 b.2.2.1 b.2.2.2.1 with | some x => x.1 | none => false
theorem bunOk_spec (b : BunR) (h : b.2.2.2.1.length ≤ 1048576) : spec_BundleOk b.1 b.2.1 b.2.2.1 b.2.2.2.1 = some (bunOk b, ()) ∧ impl_BundleOk b.1 b.2.1 b.2.2.1 b.2.2.2.1 = some (bunOk b, ()) := by
 obtain ⟨x, h1, h2⟩ := bundle_same b.1 b.2.1 b.2.2.1 b.2.2.2.1 h; have : bunOk b = x := by unfold bunOk; rw [h1]
 rw [this]; exact ⟨h1, h2⟩
theorem buns_len (xs : List BunR) {k : Nat} (hk : k < xs.length) (h : xs.length + wl W_iiiLiiisE xs ≤ 1048576) : xs[k].2.2.2.1.length ≤ 1048576 := by
 have hw := wl_mem W_iiiLiiisE xs xs[k] (List.getElem_mem hk); have : W_iiiLiiisE xs[k] = List.length xs[k].2.2.2.1 + wl W_iiis xs[k].2.2.2.1 := rfl; omega
theorem in_spec (xs : List (Int × Unit)) (d : Int) (h : xs.length ≤ 1048576) : spec_l05In xs d = some (decide ((d, ()) ∈ xs), ()) := by
 have hl := loop_ind (round := spec_l05In_r0) (n := xs.length) (fun k => (xs, d, ((k : Nat) : Int), ())) (fun k => some (if (d, ()) ∈ xs.drop k then .inr (true, ()) else .inl ()))
   ⟨.inl (), by simp only [spec_l05In_r0, spec_l05In_c0, lt_nat_irr, cond_false], by rw [List.drop_length]; rfl⟩ (fun k hk => by
     rw [List.drop_eq_getElem_cons hk]; simp only [spec_l05In_r0, spec_l05In_c0, lt_nat_true hk, zero_le_nat, cond_true, toNat_nat, List.getElem?_eq_getElem hk, Option.bind_some, succ_wrap (show k < 4611686018427387904 by omega)]
     by_cases e : xs[k].1 = d
     · rw [dec_true e]; exact .inl ⟨_, rfl, by rw [if_pos (List.mem_cons.2 (.inl (by rw [← e])))]⟩
     · rw [dec_false e]; refine .inr ⟨rfl, ?_⟩; have : ((d, ()) ∈ xs[k] :: xs.drop (k + 1)) ↔ ((d, ()) ∈ xs.drop (k + 1)) := by
         rw [List.mem_cons]; exact ⟨fun h => h.resolve_left (fun q => e (by rw [← q])), .inr⟩
       by_cases q : (d, ()) ∈ xs.drop (k + 1)
       · rw [if_pos q, if_pos (this.2 q)]
       · rw [if_neg q, if_neg (fun z => q (this.1 z))]) 0 (Nat.zero_le _)
 unfold spec_l05In; have hl : loopV spec_l05In_r0 (xs, d, (0 : Int), ()) = _ := hl; rw [hl, List.drop_zero]
 by_cases q : (d, ()) ∈ xs
 · rw [if_pos q, dec_true q]; rfl
 · rw [if_neg q, dec_false q]; rfl
end Go.TM
