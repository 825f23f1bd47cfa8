/- A ring that comes to rest: Quiet, in the program and in the reference, of any work. -/
import Derived.Test.YtlgnmloddedbaaaGreatRPRingD
set_option linter.unusedSimpArgs false
set_option linter.unusedVariables false
namespace Go.TM
open Go
structure alv (w:bt):Prop where
 mem:w.2.1.length≤1048576
 aqM:w.2.2.1.length≤1048576
 mat:∀m∈w.2.2.1,Cp m≤1048576
 Bn:w.2.2.2.1.length≤268435456
 po:∀f∈w.2.2.2.1,f.q.2.2.1.length≤1048576
 PJ:w.2.2.2.2.1.length≤268435456
 list:∀h∈w.2.2.2.2.1,h.1.length≤268435456
 said:w.q.1.length≤268435456
def FW (l:List mh):Nat:=l.length+wl a6 l
def IW (l:aS):Nat:=l.length+wl dA l
def HW (l:UD):Nat:=l.length+wl dK l
theorem FW.app (a b:List mh):FW (a++b)=FW a+FW b:=by unfold FW;rw [List.length_append,Ey];omega
theorem IW.app (a b:aS):IW (a++b)=IW a+IW b:=by unfold IW;rw [List.length_append,Ey];omega
theorem FW.drop (l:List mh):FW (l.drop 1)≤FW l:=by
 cases l with
 |nil=>exact Nat.le_refl _
 |cons f l=>
  show FW l≤_;unfold FW;rw [List.length_cons,sO];omega
theorem IW.short {l:aS} (h:∀x∈l,ByteArray.size x.2.2.2.1≤60):IW l≤61*l.length:=by
 have:=Bh dA 60 l h;unfold IW;omega
theorem FW.tok (a:Int) {t:kY} (h:t.q.1.length≤20):FW [ff a t]≤21:=by
 have w0:=ns mW (fun _=>rfl) t.q.1;show 1+((t.q.1.length+wl mW t.q.1)+0+0)≤21;omega
theorem HW.set {l:UD} {k:Nat} (hk:k<l.length) (x:aS):HW (l.set k (x,()))+IW (l[k]).1=HW l+IW x:=by
 induction l generalizing k with
 |nil=>cases hk
 |cons y l ih=>
  cases k with
  |zero=>
   show HW ((x,())::l)+IW y.1=HW (y::l)+IW x;unfold HW IW;rw [sO,sO,List.length_cons,List.length_cons];show l.length+1+((x.length+wl dA x)+wl dK l)+(y.1.length+wl dA y.1)=l.length+1+((y.1.length+wl dA y.1)+wl dK l)+(x.length+wl dA x);omega
  |succ k=>
   have:=ih (Nat.lt_of_succ_lt_succ hk);show HW (y::l.set k (x,()))+IW (l[k]'(Nat.lt_of_succ_lt_succ hk)).1=HW (y::l)+IW x;unfold HW at this ⊢;rw [sO,sO,List.length_cons,List.length_cons];omega
theorem F0 {xs:aS} (h:iq xs xs.length) (s:Int):ByteArray.size (xW xs s).2.2.2.1≤60:=by
 unfold xW
 cases hi:dS xs s with
 |none=>exact Nat.zero_le _
 |some r=>exact (q9 h r (E3 hi).1).2.2.2
structure QSz (a j:Nat) (w:bt):Prop where
 Bn:FW w.2.2.2.1≤1048576+25000*a
 said:IW w.q.1≤1048576+4000*a
 heard:HW w.2.2.2.2.1≤1048576+4000*j
theorem QSz.up {a j a' j':Nat} {w:bt} (h:QSz a j w) (ha:a≤a') (hj:j≤j'):QSz a' j' w:=
 ⟨Nat.le_trans h.Bn (by omega),Nat.le_trans h.said (by omega),Nat.le_trans h.heard (by omega)⟩
end Go.TM
