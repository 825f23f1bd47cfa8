/- FirstOf, of the program and of the reference. -/
import Derived.Test.YtiljcjnnhkidbaaGreatAPDaes
set_option linter.unusedSimpArgs false
set_option linter.unusedVariables false
namespace Go.TM
open Go
theorem noring_d (d : DaeM) : spec_l14NoRing d.2.2.2.2.2.2.2.2.2.2.2.2.2.2.2.2.2.2.2.2.1 d.2.2.2.2.2.2.2.2.2.2.2.2.2.2.2.2.2.2.2.2.2.1 = some ((decide (d.2.2.2.2.2.2.2.2.2.2.2.2.2.2.2.2.2.2.2.2.1 = 0) && decide (((List.length d.2.2.2.2.2.2.2.2.2.2.2.2.2.2.2.2.2.2.2.2.2.1 : Nat) : Int) = 0)), ()) := (noring_eq _ _).1
theorem inRing_eq (d : DaeM) (h : DaeW d ≤ 1048576) : spec_l14InRing d.1 d.2.1 d.2.2.1 d.2.2.2.1 d.2.2.2.2.1 d.2.2.2.2.2.1 d.2.2.2.2.2.2.1 d.2.2.2.2.2.2.2.1 d.2.2.2.2.2.2.2.2.1 d.2.2.2.2.2.2.2.2.2.1 d.2.2.2.2.2.2.2.2.2.2.1 d.2.2.2.2.2.2.2.2.2.2.2.1 d.2.2.2.2.2.2.2.2.2.2.2.2.1 d.2.2.2.2.2.2.2.2.2.2.2.2.2.1 d.2.2.2.2.2.2.2.2.2.2.2.2.2.2.1 d.2.2.2.2.2.2.2.2.2.2.2.2.2.2.2.1 d.2.2.2.2.2.2.2.2.2.2.2.2.2.2.2.2.1 d.2.2.2.2.2.2.2.2.2.2.2.2.2.2.2.2.2.1 d.2.2.2.2.2.2.2.2.2.2.2.2.2.2.2.2.2.2.1 d.2.2.2.2.2.2.2.2.2.2.2.2.2.2.2.2.2.2.2.1 d.2.2.2.2.2.2.2.2.2.2.2.2.2.2.2.2.2.2.2.2.1 d.2.2.2.2.2.2.2.2.2.2.2.2.2.2.2.2.2.2.2.2.2.1 d.2.2.2.2.2.2.2.2.2.2.2.2.2.2.2.2.2.2.2.2.2.2.1 d.2.2.2.2.2.2.2.2.2.2.2.2.2.2.2.2.2.2.2.2.2.2.2.1 = some ((daeB d && (!d.2.1 && (decide (0 < d.2.2.2.2.2.2.2.2.2.2.2.2.2.2.2.2.2.2.2.1) && decide (d.2.2.2.2.2.2.2.2.2.2.2.2.2.2.2.2.2.2.2.2.1 = 0)))), ()) := by
 obtain ⟨k1, _, k3⟩ := dae_ok d h; unfold spec_l14InRing; simp only [k1, noring_d, Option.bind_some]
 cases hb : daeB d
 · rfl
 have q := k3.1 hb
 cases hd : d.2.1
 · by_cases ho : 0 < d.2.2.2.2.2.2.2.2.2.2.2.2.2.2.2.2.2.2.2.1
   · rw [dec_true ho]; rcases q.joins with j | j
     · rw [j.1, j.2.1]; rfl
     · have : ¬ d.2.2.2.2.2.2.2.2.2.2.2.2.2.2.2.2.2.2.2.2.1 = 0 := by have := j.1.1.1; omega
       rw [dec_false this]; rfl
   · rw [dec_false ho]; rfl
 · rfl
end Go.TM
