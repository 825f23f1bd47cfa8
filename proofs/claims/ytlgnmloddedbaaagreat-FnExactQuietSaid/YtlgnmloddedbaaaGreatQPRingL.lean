/- A ring's life, as the reference plays it: its events. -/
import Derived.Test.YtlgnmloddedbaaaGreatQPHold
set_option linter.unusedSimpArgs false
set_option linter.unusedVariables false
namespace Go.TM
open Go
def Ad (f:oO) (l:aW):aW:=l.filter fun x=>decide (f.2.2.2.2.1<x.1)
def nX (w:bT) (f:oO) (l:aW):bT:=aeW w (w.q.1++Ad f l)
theorem E7 (f:oO) (l:aW):(Ad f l).length≤l.length:=List.length_filter_le _ _
abbrev aeY:Type:=Int×Int×Int×Int×ByteArray×Unit
structure apL (ms:km) (e:aeY):Prop where
 kind:1≤e.1∧e.1≤7
 id:(e.2.1,())∈ms
 at_:0≤e.2.2.1
 say:e.1=1→(1≤e.2.2.2.1∧e.2.2.2.1≤2)∧ByteArray.size e.2.2.2.2.1≤60
 no:e.1≠1→e.2.2.2.1=0∧e.2.2.2.2.1=ByteArray.empty
end Go.TM
