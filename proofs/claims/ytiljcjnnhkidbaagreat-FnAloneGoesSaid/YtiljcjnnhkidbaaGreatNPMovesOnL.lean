/- A daemon that moves on with another one: parts of the law. -/
import Derived.Test.YtiljcjnnhkidbaaGreatNPWldF
set_option linter.unusedSimpArgs false
set_option linter.unusedVariables false
namespace Go.TM
open Go
theorem YO {d:bY} {n:Nat} (h:lI n d) (hn:n≤100) {c:Int} {ms:dG} (hr:lU c ms) (hm:(d.1,())∈ms) (hd:d.2.1=false) (hc:d.2.2.2.2.2.2.2.2.2.2.2.2.2.2.2.2.2.2.1<c):Gr d c ms=true:=by
 have hl:ms.length≤1048576:=by have:=hr.2.1.2;omega
 unfold Gr;rw [(m7 d (h.small hn)).2.2.2 h.q,hd,(qU c ms hl).2.2.2 hr,decide_eq_true hm,decide_eq_false (show ¬c≤d.2.2.2.2.2.2.2.2.2.2.2.2.2.2.2.2.2.2.1 by omega)];rfl
end Go.TM
