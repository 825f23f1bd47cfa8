/- A daemon that moves on with another one: parts of the law. -/
import Derived.Test.YtiljcjnnhkidbaaGreatMPWldF
set_option linter.unusedSimpArgs false
set_option linter.unusedVariables false
namespace Go.TM
open Go
theorem BP {n:Nat} {d:bZ} (h:kN n d) {c:Int} {ms:dC} (hr:js c ms) (hm:(d.1,())∈ms) (hd:d.2.1=false) (hc:d.2.2.2.2.2.2.2.2.2.2.2.2.2.2.2.2.2.2.1<c) (h2:ms.length=2):tP d c ms=bG d c ms∧(fU d ms (cC d c)).length=1:=by
 obtain ⟨_,hP,_⟩:=Bs h hr hm hd hc;have Un:(d.2.2.2.2.2.1).length≤60:=(uY hP).1;refine ⟨?_,?_⟩
 ·unfold tP;rw [OL hr hm hP (by omega),aq (show ¬((List.length ms:Nat):Int)=1 by omega)];rfl
 ·rw [Lj hr.2.2 hm,List.length_replicate];omega
theorem O1 {d:bZ} {n:Nat} (h:kN n d) (hn:n≤100) {c:Int} {ms:dC} (hr:js c ms) (hm:(d.1,())∈ms) (hd:d.2.1=false) (hc:d.2.2.2.2.2.2.2.2.2.2.2.2.2.2.2.2.2.2.1<c):x8 d c ms=true:=by
 have hl:ms.length≤1048576:=by have:=hr.2.1.2;omega
 unfold x8;rw [(j6 d (h.small hn)).2.2.2 h.q,hd,(ou c ms hl).2.2.2 hr,decide_eq_true hm,decide_eq_false (show ¬c≤d.2.2.2.2.2.2.2.2.2.2.2.2.2.2.2.2.2.2.1 by omega)];rfl
def eC (o c:Int):dS:=(o,c,0,[],())
theorem O2 {o c:Int} (ho:1≤o∧o≤5) (hc:1≤c∧c≤9):B6 (eC o c):=⟨ho,hc,⟨Int.le_refl _,by show (0:Int)≤c-1;omega⟩,pV,.inr rfl⟩
theorem ZU {d:bZ} {o c x:Int} (h1:lM (cC d c)=true) (h2:lM (eC o c)=true):(fT ([cC d c]++[eC o c]) c x).isSome=(decide (d.1=x)||decide (o=x)):=by
 unfold fT;rw [List.cons_append,List.nil_append,List.find?_cons,List.find?_cons,List.find?_nil,h1,h2];show (match decide (d.1=x)&&(decide (c=c)&&true) with | true=>some (cC d c) | false=>match decide (o=x)&&(decide (c=c)&&true) with | true=>some (eC o c) | false=>none).isSome=_;rw [decide_eq_true (rfl:c=c)]
 cases decide (d.1=x)<;>cases decide (o=x)<;>rfl
theorem UG {d:bZ} {o c:Int} {ms:dC} (h1:lM (cC d c)=true) (h2:lM (eC o c)=true) (hm:∀x∈ms,x.1=d.1∨x.1=o):jT c ms ([cC d c]++[eC o c])=true:=by
 unfold jT;refine List.all_eq_true.2 fun x hx => ?_
 rw [ZU h1 h2];rcases hm x hx with e | e
 ·rw [e,decide_eq_true rfl];rfl
 ·rw [e,decide_eq_true (rfl:o=o),Bool.or_true]
theorem agz {d:bZ} {c x:Int} (h1:lM (cC d c)=true):(fT [cC d c] c x).isSome=decide (d.1=x):=by
 unfold fT;rw [List.find?_cons,List.find?_nil,h1];show (match decide (d.1=x)&&(decide (c=c)&&true) with | true=>some (cC d c) | false=>none).isSome=_;rw [decide_eq_true (rfl:c=c)]
 cases decide (d.1=x)<;>rfl
theorem I3 {n:Nat} {d:bZ} (h:kN n d) (hn:n≤98) {c o:Int} {ms:dC} (hr:js c ms) (hm:(d.1,())∈ms) (hd:d.2.1=false) (hc:d.2.2.2.2.2.2.2.2.2.2.2.2.2.2.2.2.2.2.1<c) (ho:1≤o∧o≤5) (lO:¬d.1=o) (lu:∀x∈ms,x.1=d.1∨x.1=o) :
  bz (bG d c ms) (eC o c)=(dU (dz (bG d c ms) ([cC d c]++[eC o c])),true):=by
 obtain ⟨g,hP,hB⟩:=Bs h hr hm hd hc;have Un:(d.2.2.2.2.2.1).length≤60:=(uY hP).1;have h1:lM (cC d c)=true:=(Ee (cC d c) (by show (d.2.2.2.2.2.1).length≤_;omega)).2 hP;have h2:lM (eC o c)=true:=(Ee (eC o c) (Nat.zero_le _)).2 (O2 ho hr.1);have ar1:jd (bG d c ms)=true:=(j6 _ (g.small (by omega))).2.2.2 g.q;have hcz:¬c=0:=by have:=hr.1.1;omega
 have ht:x7 (bG d c ms) (eC o c)=true:=by
  unfold x7;rw [ar1,h2];show (true&&(true&&(!decide (c=0)&&(decide (c=c) && !(fT [cC d c] c o).isSome))))=true;rw [agz h1,decide_eq_false hcz,decide_eq_true (rfl:c=c),decide_eq_false lO];rfl
 unfold bz;rw [ht];show (fi (bG d c ms) (eC o c),true)=_;unfold fi;have hh:jT c ms ([cC d c]++[eC o c])=true:=UG h1 h2 lu;show ((bif jT c ms ([cC d c]++[eC o c]) then dU (dz (bG d c ms) ([cC d c]++[eC o c])) else dz (bG d c ms) ([cC d c]++[eC o c])),true)=_;rw [hh];rfl
theorem Lo {c a b:Int} (hc:1≤c∧c≤9) (ha:1≤a) (hab:a<b) (hb:b≤5):js c [(a,()),(b,())]:=by
 refine ⟨hc,⟨show 1≤2 by decide,show 2≤5 by decide⟩,fun k hk _ => ?_⟩
 match k,hk with
 |0,_=>exact ⟨⟨ha,by show a≤5;omega⟩,fun h=>absurd h (by omega)⟩
 |1,_=>exact ⟨⟨by show 1≤b;omega,hb⟩,fun _=>hab⟩
theorem O3 {n:Nat} {d:bZ} {c:Int} {ms:dC} (g:kN n (bG d c ms)) (hc:¬c=0):fZ (bG d c ms)=false:=by
 unfold fZ;show (jd (bG d c ms)&&(!d.2.1&&(decide (0<d.2.2.2.2.2.2.2.2.2.2.2.2.2.2.2.2.2.2.2.1)&&decide (c=0))))=false;rw [decide_eq_false hc]
 cases jd (bG d c ms)<;>cases d.2.1<;>cases decide (0<d.2.2.2.2.2.2.2.2.2.2.2.2.2.2.2.2.2.2.2.1)<;>rfl
theorem O4 (i:Int) (h1:1≤i) (h2:i≤5):∃o:Int,IntKind.i64.wrap (Int.tmod i 5+1)=o∧(1≤o∧o≤5)∧¬i=o:=by
 rcases (show i=1∨i=2∨i=3∨i=4∨i=5 by omega) with rfl | rfl | rfl | rfl | rfl
 ·exact ⟨2,by rw [show Int.tmod 1 5=1 from rfl,cD]<;>omega,by omega,by omega⟩
 ·exact ⟨3,by rw [show Int.tmod 2 5=2 from rfl,cD]<;>omega,by omega,by omega⟩
 ·exact ⟨4,by rw [show Int.tmod 3 5=3 from rfl,cD]<;>omega,by omega,by omega⟩
 ·exact ⟨5,by rw [show Int.tmod 4 5=4 from rfl,cD]<;>omega,by omega,by omega⟩
 ·exact ⟨1,by rw [show Int.tmod 5 5=0 from rfl,cD]<;>omega,by omega,by omega⟩
theorem O5 (d:bZ) (hj:¬d.2.2.2.2.2.2.2.2.2.2.2.2.2.2.2.2.2.2.2.2.1=0):mn d.1 d.2.1 d.2.2.1 d.2.2.2.1 d.2.2.2.2.1 d.2.2.2.2.2.1 d.2.2.2.2.2.2.1 d.2.2.2.2.2.2.2.1 d.2.2.2.2.2.2.2.2.1 d.2.2.2.2.2.2.2.2.2.1 d.2.2.2.2.2.2.2.2.2.2.1 d.2.2.2.2.2.2.2.2.2.2.2.1 d.2.2.2.2.2.2.2.2.2.2.2.2.1 d.2.2.2.2.2.2.2.2.2.2.2.2.2.1 d.2.2.2.2.2.2.2.2.2.2.2.2.2.2.1 d.2.2.2.2.2.2.2.2.2.2.2.2.2.2.2.1 d.2.2.2.2.2.2.2.2.2.2.2.2.2.2.2.2.1 d.2.2.2.2.2.2.2.2.2.2.2.2.2.2.2.2.2.1 d.2.2.2.2.2.2.2.2.2.2.2.2.2.2.2.2.2.2.1 d.2.2.2.2.2.2.2.2.2.2.2.2.2.2.2.2.2.2.2.1 d.2.2.2.2.2.2.2.2.2.2.2.2.2.2.2.2.2.2.2.2.1 d.2.2.2.2.2.2.2.2.2.2.2.2.2.2.2.2.2.2.2.2.2.1 d.2.2.2.2.2.2.2.2.2.2.2.2.2.2.2.2.2.2.2.2.2.2.1 d.2.2.2.2.2.2.2.2.2.2.2.2.2.2.2.2.2.2.2.2.2.2.2.1=some ((0:Int),(0:Int),(0:Int),(0:Int),(0:Int),[],false,()):=by
 unfold mn;delta bA;rw [aq hj]
 cases d.2.1<;>cases decide (d.2.2.2.2.2.2.2.2.2.2.2.2.2.2.2.2.2.2.2.1≤0)<;>rfl
end Go.TM
