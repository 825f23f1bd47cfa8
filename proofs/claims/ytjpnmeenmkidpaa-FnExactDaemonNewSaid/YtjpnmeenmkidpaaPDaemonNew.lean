/- DaemonNew: a new daemon, and what the law asks of it. -/
import Derived.Test.YtjpnmeenmkidpaaPLacksLaw
set_option linter.unusedSimpArgs false
set_option linter.unusedVariables false
namespace Go.TM
open Go

theorem markB_nil (k : Int) : laws_markBundleS [] k = some (k, ()) := by
  have h : loopV laws_markBundleS_r0 ([], k, (0 : Int), ()) = some (.inl (k, ())) :=
    loop_run (round := laws_markBundleS_r0) (e := .inl (k, ())) 0 (fun _ => ([], k, (0 : Int), ())) rfl (fun k hk => absurd hk (Nat.not_lt_zero _))
  unfold laws_markBundleS
  rw [h]
  rfl
theorem markE_nil (k : Int) : laws_markEventS [] k = some (k, ()) := by
  have h : loopV laws_markEventS_r0 ([], k, (0 : Int), ()) = some (.inl (k, ())) :=
    loop_run (round := laws_markEventS_r0) (e := .inl (k, ())) 0 (fun _ => ([], k, (0 : Int), ())) rfl (fun k hk => absurd hk (Nat.not_lt_zero _))
  unfold laws_markEventS
  rw [h]
  rfl
theorem heldB_nil (k : Int) : laws_heldBundleS [] k = some (k, ()) := by
  have h : loopV laws_heldBundleS_r0 ([], k, (0 : Int), ()) = some (.inl (k, ())) :=
    loop_run (round := laws_heldBundleS_r0) (e := .inl (k, ())) 0 (fun _ => ([], k, (0 : Int), ())) rfl (fun k hk => absurd hk (Nat.not_lt_zero _))
  unfold laws_heldBundleS
  rw [h]
  rfl
theorem heldE_nil (k : Int) : laws_heldEventS [] k = some (k, ()) := by
  have h : loopV laws_heldEventS_r0 ([], k, (0 : Int), ()) = some (.inl (k, ())) :=
    loop_run (round := laws_heldEventS_r0) (e := .inl (k, ())) 0 (fun _ => ([], k, (0 : Int), ())) rfl (fun k hk => absurd hk (Nat.not_lt_zero _))
  unfold laws_heldEventS
  rw [h]
  rfl

theorem daemonnew_law (id : Int) : laws_FnExactDaemonNew id = some (true, ()) := by
  have key : ∀ i : Int, laws_markDaemon i false 0 0 [] [] [] [] 0 0 0 0 0 0 0 0 0 [] 0 0 0 [] [] [] 1 = some (1, [], [], [], [], [], [], [], [], ()) ∧ laws_heldDaemon i false 0 0 [] [] [] [] 0 0 0 0 0 0 0 0 0 [] 0 0 0 [] [] [] 1 = some (1, ()) := by
    intro i
    obtain ⟨l2, l3, l4, l5, l15, e1, g1, n2, n3, n4, n5, n15⟩ := mh_Mate 0 0 [] [] [] [] 0 0 0 0 0 0 0 0 0 [] 1 (by simp) (by simp) (by simp) (by simp) (by simp) (by omega)
    have n2 := List.length_eq_zero_iff.1 n2
    have n3 := List.length_eq_zero_iff.1 n3
    have n4 := List.length_eq_zero_iff.1 n4
    have n5 := List.length_eq_zero_iff.1 n5
    have n15 := List.length_eq_zero_iff.1 n15
    subst n2; subst n3; subst n4; subst n5; subst n15
    obtain ⟨l1, e2, g2, n1⟩ := mh_Ring 0 [] 1 (by simp) (by omega)
    have n1 := List.length_eq_zero_iff.1 n1
    subst n1
    have e1 : laws_markMate 0 0 [] [] [] [] 0 0 0 0 0 0 0 0 0 [] (1 : Int) = some (1, [], [], [], [], [], ()) := e1
    have g1 : laws_heldMate 0 0 [] [] [] [] 0 0 0 0 0 0 0 0 0 [] (1 : Int) = some (1, ()) := g1
    have e2 : laws_markRing 0 [] (1 : Int) = some (1, [], ()) := e2
    have g2 : laws_heldRing 0 [] (1 : Int) = some (1, ()) := g2
    constructor
    · unfold laws_markDaemon
      simp only [e1, e2, markB_nil, markE_nil, Option.bind_some]
    · unfold laws_heldDaemon
      simp only [g1, g2, heldB_nil, heldE_nil, Option.bind_some, dec_false (show ¬ (1 : Int) < 0 by omega), cond_false]
  have heq : ∀ i : Int, laws_eqDaemon i false 0 0 [] [] [] [] 0 0 0 0 0 0 0 0 0 [] 0 0 0 [] [] [] i false 0 0 [] [] [] [] 0 0 0 0 0 0 0 0 0 [] 0 0 0 [] [] [] = some (true, ()) := by
    intro i
    exact eq_Daemon i false 0 0 [] [] [] [] 0 0 0 0 0 0 0 0 0 [] 0 0 0 [] [] [] (Nat.zero_le _)
  unfold laws_FnExactDaemonNew spec_DaemonNew impl_DaemonNew
  simp only [in_eq, daemon_eq, Option.bind_some]
  cases (decide ((1 : Int) ≤ id) && decide (id ≤ 5))
  · simp only [Bool.not_false, cond_true, Option.bind_some, heq, (key 0).1, (key 0).2, Bool.not_true, cond_false, beq_self_eq_true, dec_false (show ¬ (1 : Int) < 0 by omega), decide_true]
  · simp only [Bool.not_true, cond_false, Option.bind_some, heq, (key id).1, (key id).2, beq_self_eq_true, dec_false (show ¬ (1 : Int) < 0 by omega), decide_true]
end Go.TM
