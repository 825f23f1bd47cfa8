/- The first right bundle of a daemon for a ring; those who go on together. -/
import Derived.Test.YtiljcjnnhkidbaaCPCopyLog
set_option linter.unusedSimpArgs false
set_option linter.unusedVariables false
namespace Go.TM
open Go
theorem in_spec (xs : List (Int × Unit)) (d : Int) (h : xs.length ≤ 1048576) : spec_l05In xs d = some (decide ((d, ()) ∈ xs), ()) := by
 have hl := loop_ind (round := spec_l05In_r0) (n := xs.length) (fun k => (xs, d, ((k : Nat) : Int), ())) (fun k => some (if (d, ()) ∈ xs.drop k then .inr (true, ()) else .inl ()))
   ⟨.inl (), by simp only [spec_l05In_r0, spec_l05In_c0, lt_nat_irr, cond_false], by rw [List.drop_length]; rfl⟩ (fun k hk => by
     rw [List.drop_eq_getElem_cons hk]; simp only [spec_l05In_r0, spec_l05In_c0, lt_nat_true hk, zero_le_nat, cond_true, toNat_nat, List.getElem?_eq_getElem hk, Option.bind_some, succ_wrap (show k < 4611686018427387904 by omega)]
     by_cases e : xs[k].1 = d
     · rw [dec_true e]; exact .inl ⟨_, rfl, by rw [if_pos (List.mem_cons.2 (.inl (by rw [← e])))]⟩
     · rw [dec_false e]; refine .inr ⟨rfl, ?_⟩; have : ((d, ()) ∈ xs[k] :: xs.drop (k + 1)) ↔ ((d, ()) ∈ xs.drop (k + 1)) := by
         rw [List.mem_cons]; exact ⟨fun h => h.resolve_left (fun q => e (by rw [← q])), .inr⟩
       by_cases q : (d, ()) ∈ xs.drop (k + 1)
       · rw [if_pos q, if_pos (this.2 q)]
       · rw [if_neg q, if_neg (fun z => q (this.1 z))]) 0 (Nat.zero_le _)
 unfold spec_l05In; have hl : loopV spec_l05In_r0 (xs, d, (0 : Int), ()) = _ := hl; rw [hl, List.drop_zero]
 by_cases q : (d, ()) ∈ xs
 · rw [if_pos q, dec_true q]; rfl
 · rw [if_neg q, dec_false q]; rfl
end Go.TM
