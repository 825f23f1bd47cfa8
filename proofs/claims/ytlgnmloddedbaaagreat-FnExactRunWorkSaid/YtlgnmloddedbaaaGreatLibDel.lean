/- slices.Delete at rows of several cells: what its parts do. -/
import Derived.Test.YtlgnmloddedbaaaGreatLibWide
import Derived.Lib.SlicesDelete
import Derived.Lib.SliceRun
import Derived.Deep.RegionLaw
import Derived.Shelf.RegionOpenPlain
import Derived.Sort.WalkB12
namespace Go.TM
open Go Go.RowKit Go.Proofs Go.Lib
theorem FE (z:Array Value):(Builtin.zeroCells z 1).toList=z.toList:=by
 unfold Builtin.zeroCells;apply List.ext_getElem
 ·simp
 ·intro i h1 h2;have h2:i<z.size:=by simpa using h2
  simp [Nat.mod_eq_of_lt h2,h2]
theorem EB {P:Program} (w:World) (t e ty:TypeId) (z:Value) (ht:P.underlying t=some (.slice e)) (hv:(zeroValue e).run P w=.ok z w) (h1:∀v∈z.cells.toList,v.oneCell'=true) (b o n c:Nat) (hn:n=1)
  (hc:∀j,j<z.cells.size→(w.cell? ⟨b,o+j,none⟩).isSome=true) (hf:∀j,j<z.cells.size→w.frozen? ⟨b,o+j,none⟩=false) :
  (Builtin.clear_ #[t] ty #[.slice (some ⟨b,o,none⟩) n c]).run P w=.ok (.tuple #[]) (w.setCells b o z.cells.toList):=by
 subst hn;have pz:=run_storeCells_cells (P:=P) b o z.cells.toList 0 w (by simpa using hc) (by simpa using hf) h1;simp only [Nat.add_zero] at pz;have hz:=FE z.cells;simp [Builtin.clear_,run_underlying ht,hv,hz,pz]
end Go.TM
