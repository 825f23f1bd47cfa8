/- slices.Sort and slices.Compact at whole numbers, of the kit's library of contracts, as functions of the tree machine. -/
import Derived.Test.YtlgnmloddedbaaaGreatLibWide
import Derived.Shelf.Sort.Plain
import Derived.Shelf.Slices.In.SortNone
import Derived.Shelf.Slices.In.CompactI
set_option linter.unusedSimpArgs false
set_option linter.unusedVariables false
namespace Go.TM
open Go Go.RowKit Go.Proofs Go.Shelf Go.Sort
def Cz.one (c : Cz) (b : Nat) (l : Lb) : Cz := { c with own := fun b' => if b' = b then some l else c.own b' }
theorem Bas.one {c : Cz} {w w' : World} {mu : Mu} {b : Nat} {l : Lb} (h : Bas w mu c w') (hm : mu.m b) (hb : b < w'.heap.size) : Bas w mu (c.one b l) w' := by
 refine ⟨fun b' l' h' => ?_, fun b' hlt h' => ?_, h.kept, h.old⟩
 · have h' : (if b' = b then some l else c.own b') = some l' := h'
   by_cases e : b' = b
   · subst e; exact ⟨hb, .inr (.inr hm)⟩
   · rw [if_neg e] at h'; exact h.owned b' l' h'
 · have h' : (if b' = b then some l else c.own b') = none := h'
   by_cases e : b' = b
   · rw [if_pos e] at h'; cases h'
   · rw [if_neg e] at h'; exact h.free b' hlt h'
end Go.TM
