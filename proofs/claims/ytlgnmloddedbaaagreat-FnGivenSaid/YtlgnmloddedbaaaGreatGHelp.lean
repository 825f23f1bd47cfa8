/- Sizes, copies, sameness: what the laws' own helping functions answer. -/
import Derived.Test.YtlgnmloddedbaaaGreatGF3
set_option linter.unusedSimpArgs false
set_option linter.unusedVariables false
namespace Go.TM
open Go
def kY (_:Int×Unit):Nat:=0
def rY (x:Int×aE×Unit):Nat:=(List.length x.2.1+wl kY x.2.1)
def ec (x:tW):Nat:=ByteArray.size x.2.2.2.1
def KM (x:ByteArray×Unit):Nat:=ByteArray.size x.1
def fc (x:mw):Nat:=(List.length x.2.2.2.1+wl ec x.2.2.2.1)
def bD (x:wh):Nat:=(List.length x.2.2.1+wl kY x.2.2.1)+ByteArray.size x.q.2.1+(List.length x.q.2.2.1+wl kY x.q.2.2.1)
end Go.TM
set_option linter.unusedSimpArgs false
set_option linter.unusedVariables false
namespace Go.TM
open Go
end Go.TM
set_option linter.unusedSimpArgs false
set_option linter.unusedVariables false
namespace Go.TM
open Go
theorem Y9 {p:Prop} {i:Decidable p} (h:p):@decide p i=true:=decide_eq_true h
theorem VH {p:Prop} {i:Decidable p} (h:¬p):@decide p i=false:=decide_eq_false h
theorem Nr {α:Type} (f:α→Nat) (c:Nat):(xs:List α)→(∀x∈xs,f x≤c)→wl f xs≤c*xs.length
 | [],_=>Nat.zero_le _
 |x::xs,h=>by
  rw [tf,List.length_cons,Nat.mul_succ];have:=Nr f c xs (fun y hy=>h y (List.mem_cons_of_mem _ hy));have:=h x List.mem_cons_self;omega
end Go.TM
set_option linter.unusedSimpArgs false
set_option linter.unusedVariables false
namespace Go.TM
open Go
theorem ni (a b c:Int):ck a b c=some (decide (b≤a)&&decide (a≤c),()):=by
 unfold ck
 cases decide (b≤a)<;>rfl
theorem qI (a b c:Int):cC a b c=some (decide (b≤a)&&decide (a≤c),()):=by
 unfold cC
 cases decide (b≤a)<;>rfl
theorem pw (a:Int):fK a=some (decide (1≤a)&&decide (a≤5),()):=by
 unfold fK;rw [qI];rfl
def Hw {A B:Type}:Sum A (Bool×Unit)→Sum B (Bool×Unit)→Prop
 |.inl _,.inl _=>True
 |.inr a,.inr b=>a.1=b.1
 |_,_=>False
theorem vM {k:Nat} (h0:0<k) (h:k<4611686018427387904):IntKind.i64.wrap (((k:Nat):Int)-(1:Int))=(((k-1:Nat)):Int):=by
 rw [fj]<;>omega
theorem VI (c:Int) (xs:List (Int×Unit)) (h:xs.length≤1048576) :
  ∃e f,aI gP (c,xs,(0:Int),())=some e∧aI oO (c,xs,xs,((List.length xs:Nat):Int),(0:Int),())=some f∧Hw e f:=by
 refine oB xs.length (fun k x y=>x=(c,xs,((k:Nat):Int),())∧y=(c,xs,xs,((List.length xs:Nat):Int),((k:Nat):Int),())) Hw ?_ ⟨rfl,rfl⟩
 rintro k x y hk ⟨rfl,rfl⟩
 by_cases dB:k<xs.length
 ·simp only [gP,oH,oO,ax,wG,aD dB,au,cond_true,aC,List.getElem?_eq_getElem dB,Option.bind_some,ni,pw,aH (show k<4611686018427387904 by omega)]
  cases (decide (1≤xs[k].1)&&decide (xs[k].1≤5))
  ·exact .inl ⟨.inr (false,()),.inr (false,()),rfl,rfl,rfl⟩
  ·by_cases h0:0<k
   ·have hp:k-1<xs.length:=by omega
    rw [vM h0 (by omega)];simp only [aq (show (0:Int)<((k:Nat):Int) by omega),Bool.not_true,cond_false,cond_true,au,aC,List.getElem?_eq_getElem hp,Option.bind_some]
    cases decide (xs[k].1≤xs[k-1].1)
    ·exact .inr ⟨dB,_,_,rfl,rfl,rfl,rfl⟩
    ·exact .inl ⟨.inr (false,()),.inr (false,()),rfl,rfl,rfl⟩
   ·have:k=0:=by omega
    subst this;simp only [ak (show ¬(0:Int)<((0:Nat):Int) by omega),Bool.not_true,cond_false];exact .inr ⟨dB,_,_,rfl,rfl,rfl,rfl⟩
 ·have:k=xs.length:=by omega
  subst this;exact .inl ⟨.inl (),.inl (),by simp only [gP,oH,aJ,cond_false],by simp only [oO,ax,wG,aJ,cond_false],trivial⟩
theorem vN (c:Int) (xs:List (Int×Unit)) (h:xs.length≤1048576):∃b,eg c xs=some (b,())∧fU c xs=some (b,())∧(b=true→1≤xs.length∧xs.length≤5):=by
 obtain ⟨e,f,h1,h2,h3⟩:=VI c xs h;unfold eg fU;simp only [ni,qI,Option.bind_some,h1,h2]
 cases (decide (1≤c)&&decide (c≤9))
 ·exact ⟨false,rfl,rfl,fun h=>by cases h⟩
 cases hb:(decide (1≤((List.length xs:Nat):Int))&&decide (((List.length xs:Nat):Int)≤5))
 ·exact ⟨false,rfl,rfl,fun h=>by cases h⟩
 have hl:1≤xs.length∧xs.length≤5:=by
  rw [Bool.and_eq_true,decide_eq_true_eq,decide_eq_true_eq] at hb;omega
 cases e with
 |inl e=>cases f with
  |inl f=>exact ⟨true,rfl,rfl,fun _=>hl⟩
  |inr f=>exact h3.elim
 |inr e=>cases f with
  |inl f=>exact h3.elim
  |inr f=>exact ⟨e.1,rfl,by rw [show e.1=f.1 from h3];rfl,fun _=>hl⟩
end Go.TM
set_option linter.unusedSimpArgs false
set_option linter.unusedVariables false
namespace Go.TM
open Go
def acC (e:Sum Unit (Bool×Unit)) (f:Sum Unit (Int×Unit)):Prop:=∃b,(e=.inl ()∧f=.inl ()∧b=false)∨(e=.inr (true,())∧(∃k:Nat,f=.inr (((k:Nat):Int),()))∧b=true)
theorem abj (d:Int) (xs:List (Int×Unit)) (h:xs.length≤1048576) :
  ∃e f,aI eY (xs,d,(0:Int),())=some e∧aI cV (xs,d,((List.length xs:Nat):Int),(0:Int),())=some f∧acC e f:=by
 refine oB xs.length (fun k x y=>x=(xs,d,((k:Nat):Int),())∧y=(xs,d,((List.length xs:Nat):Int),((k:Nat):Int),())) acC ?_ ⟨rfl,rfl⟩
 rintro k x y hk ⟨rfl,rfl⟩
 by_cases dB:k<xs.length
 ·simp only [eY,lr,cV,ax,fS,aD dB,au,cond_true,aC,List.getElem?_eq_getElem dB,Option.bind_some,aH (show k<4611686018427387904 by omega)]
  by_cases hd:xs[k].1=d
  ·rw [aq hd,aq hd.symm];exact .inl ⟨.inr (true,()),.inr (((k:Nat):Int),()),rfl,rfl,true,.inr ⟨rfl,⟨k,rfl⟩,rfl⟩⟩
  ·rw [ak hd,ak (fun e=>hd e.symm)];exact .inr ⟨dB,_,_,rfl,rfl,rfl,rfl⟩
 ·have:k=xs.length:=by omega
  subst this;exact .inl ⟨.inl (),.inl (),by simp only [eY,lr,aJ,cond_false],by simp only [cV,ax,fS,aJ,cond_false],false,.inl ⟨rfl,rfl,rfl⟩⟩
theorem qb (d:Int) (xs:List (Int×Unit)) (h:xs.length≤1048576):∃b,dA xs d=some (b,())∧cK xs d=some (b,()):=by
 obtain ⟨e,f,h1,h2,b,h3⟩:=abj d xs h;unfold dA cK ma;rw [h1,h2];rcases h3 with ⟨rfl,rfl,rfl⟩ | ⟨rfl,⟨k,rfl⟩,rfl⟩
 ·exact ⟨false,rfl,rfl⟩
 ·refine ⟨true,rfl,?_⟩;simp only [bU,Option.bind_some,au]
end Go.TM
set_option linter.unusedSimpArgs false
set_option linter.unusedVariables false
namespace Go.TM
open Go
def Za (t:Int×Int×Int×Int×Int×(List (Int×Unit))×Unit):Sum Unit (Bool×Unit)→Sum (Int×Int×Int×Int×Int×(List (Int×Unit))×Unit) (Bool×Unit)→Prop
 |.inl _,.inl z=>z=t
 |.inr a,.inr b=>a.1=false∧b.1=false
 |_,_=>False
theorem RC (c0 c1 c2 c3 c4:Int) (xs:List (Int×Unit)) (h:xs.length≤1048576) :
  ∃e f,aI gl (c0,c1,c2,c3,c4,xs,(0:Int),())=some e∧aI nd (c0,c1,c2,c3,c4,xs,xs,((List.length xs:Nat):Int),(0:Int),())=some f∧Za (c0,c1,c2,c3,c4,xs,()) e f:=by
 refine oB xs.length (fun k x y=>x=(c0,c1,c2,c3,c4,xs,((k:Nat):Int),())∧y=(c0,c1,c2,c3,c4,xs,xs,((List.length xs:Nat):Int),((k:Nat):Int),())) (Za (c0,c1,c2,c3,c4,xs,())) ?_ ⟨rfl,rfl⟩
 rintro k x y hk ⟨rfl,rfl⟩
 by_cases dB:k<xs.length
 ·simp only [gl,aP,mX,nd,bz,uC,aD dB,au,cond_true,aC,List.getElem?_eq_getElem dB,Option.bind_some,ni,qI,aH (show k<4611686018427387904 by omega)]
  cases (decide (1≤xs[k].1)&&decide (xs[k].1≤c2))
  ·exact .inl ⟨.inr (false,()),.inr (false,()),rfl,rfl,rfl,rfl⟩
  ·by_cases h0:0<k
   ·have hp:k-1<xs.length:=by omega
    rw [vM h0 (by omega)];simp only [aq (show (0:Int)<((k:Nat):Int) by omega),Bool.not_true,cond_false,cond_true,au,aC,List.getElem?_eq_getElem hp,Option.bind_some]
    cases decide (xs[k].1≤xs[k-1].1)
    ·exact .inr ⟨dB,_,_,rfl,rfl,rfl,rfl⟩
    ·exact .inl ⟨.inr (false,()),.inr (false,()),rfl,rfl,rfl,rfl⟩
   ·have:k=0:=by omega
    subst this;simp only [ak (show ¬(0:Int)<((0:Nat):Int) by omega),Bool.not_true,cond_false];exact .inr ⟨dB,_,_,rfl,rfl,rfl,rfl⟩
 ·have:k=xs.length:=by omega
  subst this;exact .inl ⟨.inl (),.inl (c0,c1,c2,c3,c4,xs,()),by simp only [gl,aP,mX,aJ,cond_false],by simp only [nd,bz,uC,aJ,cond_false],rfl⟩
theorem wX (c0 c1 c2 c3 c4:Int) (xs:List (Int×Unit)) (h:xs.length≤1048576):∃b,fk c0 c1 c2 c3 c4 xs=some (b,())∧iR c0 c1 c2 c3 c4 xs=some (b,())∧(b=true→0≤c2∧c2≤60∧0≤c3∧c3≤c2∧xs.length≤20∧(∀y∈[c0,c1],1≤y)):=by
 obtain ⟨e,f,h1,h2,h3⟩:=RC c0 c1 c2 c3 c4 xs h;unfold fk iR;simp only [ni,qI,Option.bind_some,h1,h2]
 cases q0:(decide (1≤c0)&&decide (c0≤9))
 ·exact ⟨false,rfl,rfl,fun h=>by cases h⟩
 cases q1:(decide (1≤c1)&&decide (c1≤1000000000))
 ·exact ⟨false,rfl,rfl,fun h=>by cases h⟩
 cases q2:(decide (0≤c2)&&decide (c2≤60))
 ·exact ⟨false,rfl,rfl,fun h=>by cases h⟩
 cases e with
 |inl e=>cases f with
  |inl f=>
   have h3:f=(c0,c1,c2,c3,c4,xs,()):=h3;subst h3;simp only [bU,Option.bind_some,qI,Bool.not_true,cond_false]
   cases q3:(decide (0≤c3)&&decide (c3≤c2))
   ·exact ⟨false,rfl,rfl,fun h=>by cases h⟩
   cases (decide (0≤c4)&&decide (c4≤5))
   ·exact ⟨false,rfl,rfl,fun h=>by cases h⟩
   by_cases hl:((List.length xs:Nat):Int)≤20
   ·rw [aq hl,ak (show ¬(20:Int)<((List.length xs:Nat):Int) by omega)];refine ⟨true,rfl,rfl,fun _ => ?_⟩;rw [Bool.and_eq_true,decide_eq_true_eq,decide_eq_true_eq] at q0 q1 q2 q3;refine ⟨q2.1,q2.2,q3.1,q3.2,by omega,fun y hy => ?_⟩;rcases List.mem_cons.1 hy with rfl | hy
    ·exact q0.1
    ·rcases List.mem_cons.1 hy with rfl | hy
     ·exact q1.1
     ·cases hy
   ·rw [ak hl,aq (show (20:Int)<((List.length xs:Nat):Int) by omega)];exact ⟨false,rfl,rfl,fun h=>by cases h⟩
  |inr f=>exact h3.elim
 |inr e=>cases f with
  |inl f=>exact h3.elim
  |inr f=>
   obtain ⟨e1,e2⟩:=(show e.1=false∧f.1=false from h3);refine ⟨false,?_,by rw [←e2];rfl,fun h=>by cases h⟩
   cases (decide (0≤c3)&&decide (c3≤c2))
   ·rfl
   cases (decide (0≤c4)&&decide (c4≤5))
   ·rfl
   cases decide ((20:Int)<((List.length xs:Nat):Int))
   ·show some (e.1,())=some (false,());rw [e1]
   ·rfl
theorem kJ (xs:List (Int×Unit)) (h:xs.length≤1048576):dy xs=some (xs,()):=by
 unfold dy;rw [aW (show (0+xs.length)*8≤lim by unfold lim;omega)];rfl
theorem kZ (c0 c1 c2 c3 c4:Int) (xs:List (Int×Unit)) (h:xs.length≤1048576):bC c0 c1 c2 c3 c4 xs=some (c0,c1,c2,c3,c4,xs,())∧ey c0 c1 c2 c3 c4 xs=some (c0,c1,c2,c3,c4,xs,()):=by
 constructor
 ·unfold bC;rw [aW (show (0+xs.length)*8≤lim by unfold lim;omega)];rfl
 ·unfold ey;rw [kJ xs h];rfl
def Ah (c2:Int) (xs:List (Int×Unit)) (n:Nat):Prop:=∀k (h:k<xs.length),k<n→1≤xs[k].1∧xs[k].1≤c2∧∀h0:0<k,xs[k-1].1<xs[k].1
def aiq (c0 c1 c2 c3 c4:Int) (xs:List (Int×Unit)):Prop:=(1≤c0∧c0≤9)∧(1≤c1∧c1≤1000000000)∧(0≤c2∧c2≤60)∧(0≤c3∧c3≤c2)∧(0≤c4∧c4≤5)∧xs.length≤20∧Ah c2 xs xs.length
theorem L6 (c0 c1 c2 c3 c4:Int) (xs:List (Int×Unit)) (h:xs.length≤1048576):∃b,fk c0 c1 c2 c3 c4 xs=some (b,())∧iR c0 c1 c2 c3 c4 xs=some (b,())∧(b=true↔aiq c0 c1 c2 c3 c4 xs):=by
 obtain ⟨b,h1,h2,_⟩:=wX c0 c1 c2 c3 c4 xs h;refine ⟨b,h1,h2,?_⟩;obtain ⟨e,he,hq⟩:=dU (round:=gl) (x:=(c0,c1,c2,c3,c4,xs,((0:Nat):Int),())) xs.length (fun k x=>x=(c0,c1,c2,c3,c4,xs,((k:Nat):Int),())∧Ah c2 xs k)
  (fun e=>(e=.inl ()∧Ah c2 xs xs.length)∨(e=.inr (false,())∧¬Ah c2 xs xs.length)) (by
   rintro x ⟨rfl,g⟩
   exact ⟨.inl (),by simp only [gl,aP,mX,aJ,cond_false],.inl ⟨rfl,g⟩⟩) (by
   rintro k x dB ⟨rfl,g⟩
   simp only [gl,aP,mX,aD dB,au,cond_true,aC,List.getElem?_eq_getElem dB,Option.bind_some,ni,aH (show k<4611686018427387904 by omega)];have more:1≤xs[k].1→xs[k].1≤c2→(∀h0:0<k,xs[k-1].1<xs[k].1)→Ah c2 xs (k+1):=by
    intro w1 w2 w3 j hj N0
    by_cases e:j<k
    ·exact g j hj e
    ·have:j=k:=by omega
     subst this;exact ⟨w1,w2,w3⟩
   cases Hf:(decide (1≤xs[k].1)&&decide (xs[k].1≤c2))
   ·refine .inl ⟨.inr (false,()),rfl,.inr ⟨rfl,fun hn => ?_⟩⟩;obtain ⟨w1,w2,_⟩:=hn k dB dB;rw [aq w1,aq w2] at Hf
    cases Hf
   ·rw [Bool.and_eq_true,decide_eq_true_eq,decide_eq_true_eq] at Hf
    by_cases h0:0<k
    ·have hp:k-1<xs.length:=by omega
     rw [vM h0 (by omega)];simp only [aq (show (0:Int)<((k:Nat):Int) by omega),Bool.not_true,cond_false,cond_true,au,aC,List.getElem?_eq_getElem hp,Option.bind_some]
     by_cases hd:xs[k].1≤xs[k-1].1
     ·rw [aq hd];refine .inl ⟨.inr (false,()),rfl,.inr ⟨rfl,fun hn => ?_⟩⟩;have:=(hn k dB dB).2.2 h0;omega
     ·rw [ak hd];exact .inr ⟨_,rfl,rfl,more Hf.1 Hf.2 (fun _=>by omega)⟩
    ·have:k=0:=by omega
     subst this;simp only [ak (show ¬(0:Int)<((0:Nat):Int) by omega),Bool.not_true,cond_false];exact .inr ⟨_,rfl,rfl,more Hf.1 Hf.2 (fun h0=>absurd h0 (Nat.lt_irrefl 0))⟩) ⟨rfl,fun j _ h=>by omega⟩
 have he:aI gl (c0,c1,c2,c3,c4,xs,(0:Int),())=some e:=he;unfold fk at h1;simp only [ni,Option.bind_some,he] at h1;have no:∀ {p:Prop},(some (false,()):Option (Bool×Unit))=some (b,())→¬p→(b=true↔p):=by
  intro p e1 hp;injection e1 with e1;injection e1 with e1;subst e1;exact ⟨(fun h=>by cases h),fun h=>absurd h hp⟩
 have yes:∀ {p:Prop},(some (true,()):Option (Bool×Unit))=some (b,())→p→(b=true↔p):=by
  intro p e1 hp;injection e1 with e1;injection e1 with e1;subst e1;exact ⟨fun _=>hp,fun _=>rfl⟩
 by_cases q0:1≤c0∧c0≤9
 case neg=>
  rw [show (decide (1≤c0)&&decide (c0≤9))=false by rw [Bool.and_eq_false_iff,decide_eq_false_iff_not,decide_eq_false_iff_not];omega] at h1;exact no h1 (fun h=>q0 h.1)
 rw [aq q0.1,aq q0.2] at h1
 by_cases q1:1≤c1∧c1≤1000000000
 case neg=>
  rw [show (decide (1≤c1)&&decide (c1≤1000000000))=false by rw [Bool.and_eq_false_iff,decide_eq_false_iff_not,decide_eq_false_iff_not];omega] at h1;exact no h1 (fun h=>q1 h.2.1)
 rw [aq q1.1,aq q1.2] at h1
 by_cases q2:0≤c2∧c2≤60
 case neg=>
  rw [show (decide (0≤c2)&&decide (c2≤60))=false by rw [Bool.and_eq_false_iff,decide_eq_false_iff_not,decide_eq_false_iff_not];omega] at h1;exact no h1 (fun h=>q2 h.2.2.1)
 rw [aq q2.1,aq q2.2] at h1
 by_cases q3:0≤c3∧c3≤c2
 case neg=>
  rw [show (decide (0≤c3)&&decide (c3≤c2))=false by rw [Bool.and_eq_false_iff,decide_eq_false_iff_not,decide_eq_false_iff_not];omega] at h1;exact no h1 (fun h=>q3 h.2.2.2.1)
 rw [aq q3.1,aq q3.2] at h1
 by_cases q4:0≤c4∧c4≤5
 case neg=>
  rw [show (decide (0≤c4)&&decide (c4≤5))=false by rw [Bool.and_eq_false_iff,decide_eq_false_iff_not,decide_eq_false_iff_not];omega] at h1;exact no h1 (fun h=>q4 h.2.2.2.2.1)
 rw [aq q4.1,aq q4.2] at h1
 by_cases q5:(20:Int)<((List.length xs:Nat):Int)
 ·rw [aq q5] at h1;exact no h1 (fun h=>by have:=h.q.1;omega)
 rw [ak q5] at h1;rcases hq with ⟨rfl,q⟩ | ⟨rfl,q⟩
 ·exact yes h1 ⟨q0,q1,q2,q3,q4,by omega,q⟩
 ·exact no h1 (fun h=>q h.q.2)
end Go.TM
set_option linter.unusedSimpArgs false
set_option linter.unusedVariables false
namespace Go.TM
open Go
theorem Cb (a:Int):mM a=some (decide (1≤a)&&decide (a≤2),()):=by
 unfold mM
 by_cases h1:a=1
 ·subst h1;rfl
 by_cases h2:a=2
 ·subst h2;rfl
 have e:(decide (1≤a)&&decide (a≤2))=false:=by
  rw [Bool.and_eq_false_iff,decide_eq_false_iff_not,decide_eq_false_iff_not];omega
 rw [e,ak h1,ak h2];rfl
theorem VJ (a b c:Int) (s:ByteArray):∃x,kQ a b c s=some (x,())∧mA a b c s=some (x,()):=by
 unfold kQ mA;simp only [ni,qI,pw,Cb,Option.bind_some]
 cases (decide (1≤a)&&decide (a≤60))
 ·exact ⟨_,rfl,rfl⟩
 cases (decide (1≤b)&&decide (b≤5))
 ·exact ⟨_,rfl,rfl⟩
 cases (decide (1≤c)&&decide (c≤2))
 ·exact ⟨_,rfl,rfl⟩
 ·exact ⟨_,rfl,rfl⟩
theorem RD (xs:List (Int×Int×Int×ByteArray×Unit)) (h:xs.length≤1048576) :
  ∃e f,aI gk (xs,(0:Int),())=some e∧aI nc (xs,xs,((List.length xs:Nat):Int),(0:Int),())=some f∧Hw e f:=by
 refine oB xs.length (fun k x y=>x=(xs,((k:Nat):Int),())∧y=(xs,xs,((List.length xs:Nat):Int),((k:Nat):Int),())) Hw ?_ ⟨rfl,rfl⟩
 rintro k x y hk ⟨rfl,rfl⟩
 by_cases dB:k<xs.length
 ·obtain ⟨b,r1,r2⟩:=VJ xs[k].1 xs[k].2.1 xs[k].2.2.1 xs[k].2.2.2.1;simp only [gk,mW,ax,nc,ax,uB,ax,aD dB,au,cond_true,aC,List.getElem?_eq_getElem dB,Option.bind_some,r1,r2,aH (show k<4611686018427387904 by omega)]
  cases b
  ·exact .inl ⟨.inr (false,()),.inr (false,()),rfl,rfl,rfl⟩
  ·by_cases h0:0<k
   ·have hp:k-1<xs.length:=by omega
    rw [vM h0 (by omega)];simp only [aq (show (0:Int)<((k:Nat):Int) by omega),Bool.not_true,cond_false,cond_true,au,aC,List.getElem?_eq_getElem hp,Option.bind_some]
    cases decide (xs[k].1≤xs[k-1].1)
    ·exact .inr ⟨dB,_,_,rfl,rfl,rfl,rfl⟩
    ·exact .inl ⟨.inr (false,()),.inr (false,()),rfl,rfl,rfl⟩
   ·have:k=0:=by omega
    subst this;simp only [ak (show ¬(0:Int)<((0:Nat):Int) by omega),Bool.not_true,cond_false];exact .inr ⟨dB,_,_,rfl,rfl,rfl,rfl⟩
 ·have:k=xs.length:=by omega
  subst this;exact .inl ⟨.inl (),.inl (),by simp only [gk,mW,ax,aJ,cond_false],by simp only [nc,ax,uB,ax,aJ,cond_false],trivial⟩
theorem DV (xs:List (Int×Int×Int×ByteArray×Unit)) (h:xs.length≤1048576):∃b,gS xs=some (b,())∧jA xs=some (b,()):=by
 obtain ⟨e,f,h1,h2,h3⟩:=RD xs h;unfold gS jA;rw [h1,h2]
 cases e with
 |inl e=>cases f with
  |inl f=>exact ⟨true,rfl,rfl⟩
  |inr f=>exact h3.elim
 |inr e=>cases f with
  |inl f=>exact h3.elim
  |inr f=>exact ⟨e.1,rfl,by rw [show e.1=f.1 from h3];rfl⟩
abbrev ez:Type:=Int×Int×Int×ByteArray×Unit
abbrev aZ:Type:=List ez
def fH (xs:aZ) (s:Int):Option ez:=xs.find? fun r=>decide (r.1=s)
def rZ:Option ez→Int×Int×Int×ByteArray×Bool×Unit
 |none=>(0,0,0,ByteArray.empty,false,())
 |some r=>(r.1,r.2.1,r.2.2.1,r.2.2.2.1,true,())
def Tl:Option ez→Sum (Int×Int×Int×ByteArray×Unit) (Int×Int×Int×ByteArray×Bool×Unit)
 |none=>.inl (0,0,0,ByteArray.empty,())
 |some r=>.inr (rZ (some r))
theorem L7 (xs:aZ) (s:Int) {k:Nat} (hk:k<xs.length):fH (xs.drop k) s=if xs[k].1=s then some xs[k] else fH (xs.drop (k+1)) s:=by
 unfold fH;rw [List.drop_eq_getElem_cons hk,List.find?_cons]
 by_cases h:xs[k].1=s
 ·rw [aq h,if_pos h]
 ·rw [ak h,if_neg h]
theorem xB (xs:aZ) (s:Int) (h:xs.length≤1048576):oI xs s=some (rZ (fH xs s)):=by
 have hl:=tI (round:=lV) (n:=xs.length) (fun k=>(xs,s,(0:Int),(0:Int),(0:Int),ByteArray.empty,((k:Nat):Int),())) (fun k=>some (Tl (fH (xs.drop k) s)))
  ⟨.inl (0,0,0,ByteArray.empty,()),by simp only [lV,aP,wk,aF,aJ,cond_false],by rw [List.drop_length];rfl⟩ (fun k hk=>by
   rw [L7 xs s hk];simp only [lV,aP,wk,aF,aD hk,au,cond_true,aC,List.getElem?_eq_getElem hk,Option.bind_some,aH (show k<4611686018427387904 by omega)]
   by_cases h:xs[k].1=s
   ·rw [aq h,if_pos h];exact .inl ⟨_,rfl,rfl⟩
   ·rw [ak h,if_neg h];exact .inr ⟨rfl,rfl⟩) 0 (Nat.zero_le _)
 unfold oI;have hl:aI lV (xs,s,(0:Int),(0:Int),(0:Int),ByteArray.empty,(0:Int),())=_:=hl;rw [hl,List.drop_zero]
 cases fH xs s<;>rfl
theorem xC (xs:aZ) (s:Int) (h:xs.length≤1048576):oP xs s=some (rZ (fH xs s)):=by
 have hl:=tI (round:=mc) (n:=xs.length) (fun k=>(s,(0:Int),(0:Int),(0:Int),ByteArray.empty,xs,((List.length xs:Nat):Int),((k:Nat):Int),())) (fun k=>some (Tl (fH (xs.drop k) s)))
  ⟨.inl (0,0,0,ByteArray.empty,()),by simp only [mc,bz,wH,aF,aJ,cond_false],by rw [List.drop_length];rfl⟩ (fun k hk=>by
   rw [L7 xs s hk];simp only [mc,bz,wH,aF,aD hk,au,cond_true,aC,List.getElem?_eq_getElem hk,Option.bind_some,aH (show k<4611686018427387904 by omega)]
   by_cases h:xs[k].1=s
   ·rw [aq h,if_pos h];exact .inl ⟨_,rfl,rfl⟩
   ·rw [ak h,if_neg h];exact .inr ⟨rfl,rfl⟩) 0 (Nat.zero_le _)
 unfold oP;have hl:aI mc (s,(0:Int),(0:Int),(0:Int),ByteArray.empty,xs,((List.length xs:Nat):Int),(0:Int),())=_:=hl;rw [hl,List.drop_zero]
 cases fH xs s<;>rfl
theorem GV:(n:Nat)→(ys:List Int)→(∀i,i<n→((i+1:Nat):Int)∈ys)→n≤ys.length
 |0,_,_=>Nat.zero_le _
 |n+1,ys,h=>by
  have hm:=h n (by omega);have:=GV n (ys.erase ((n+1:Nat):Int)) (fun i hi=>(List.mem_erase_of_ne (by omega)).2 (h i (by omega)));rw [List.length_erase_of_mem hm] at this;have:0<ys.length:=List.length_pos_of_mem hm;omega
theorem DW {xs:aZ} {s:Int} {r:ez} (h:fH xs s=some r):r∈xs∧r.1=s:=by
 unfold fH at h;exact ⟨List.mem_of_find?_eq_some h,by have:=List.find?_some h;simpa using this⟩
def Tm (xs:aZ) (n:Nat):Prop:=n≤xs.length∧(∀i,i<n→(fH xs ((i+1:Nat):Int)).isSome=true)∧fH xs ((n+1:Nat):Int)=none
theorem abk {xs:aZ} (h:∀i,i<xs.length→(fH xs ((i+1:Nat):Int)).isSome=true):fH xs ((xs.length+1:Nat):Int)=none:=by
 cases hq:fH xs ((xs.length+1:Nat):Int) with
 |none=>rfl
 |some r=>
  have key:=GV (xs.length+1) (xs.map (·.1)) (fun i hi=>by
   have:∃r,fH xs ((i+1:Nat):Int)=some r:=by
    by_cases hi':i<xs.length
    ·exact Option.isSome_iff_exists.1 (h i hi')
    ·have:i=xs.length:=by omega
     subst this;exact ⟨r,hq⟩
   obtain ⟨r',hr⟩:=this;obtain ⟨m1,m2⟩:=DW hr;exact List.mem_map.2 ⟨r',m1,m2⟩)
  rw [List.length_map] at key;omega
theorem E0 (xs:aZ) (h:xs.length≤1048576):∃n:Nat,iF xs=some (((n:Nat):Int),())∧kc xs=some (((n:Nat):Int),())∧Tm xs n:=by
 obtain ⟨e,f,h1,h2,n,h3⟩:∃e f,aI tk (xs,(0:Int),(0:Int),())=some e∧aI tv (xs,(0:Int),())=some f∧∃n:Nat,(e=.inl (((n:Nat):Int),())∨e=.inr (((n:Nat):Int),()))∧f=.inr (((n:Nat):Int),())∧Tm xs n:=by
  refine oB xs.length (fun k x y=>x=(xs,((k:Nat):Int),((k:Nat):Int),())∧y=(xs,((k:Nat):Int),())∧∀i,i<k→(fH xs ((i+1:Nat):Int)).isSome=true) _ ?_ ⟨rfl,rfl,fun i hi=>by omega⟩
  rintro k x y hk ⟨rfl,rfl,sw⟩
  simp only [tk,C5,tv,C6,aH (show k<4611686018427387904 by omega),xB xs _ h,xC xs _ h,Option.bind_some]
  by_cases dB:k<xs.length
  ·rw [aD dB]
   cases hq:fH xs ((k+1:Nat):Int) with
   |none=>exact .inl ⟨.inr (((k:Nat):Int),()),.inr (((k:Nat):Int),()),rfl,rfl,k,.inr rfl,rfl,hk,sw,hq⟩
   |some r=>
    refine .inr ⟨dB,_,_,rfl,rfl,rfl,rfl,fun i hi => ?_⟩
    by_cases hi':i<k
    ·exact sw i hi'
    ·have:i=k:=by omega
     subst this;rw [hq];rfl
  ·have:k=xs.length:=by omega
   subst this;have hq:=abk sw;rw [aJ,hq];exact .inl ⟨.inl (((xs.length:Nat):Int),()),.inr (((xs.length:Nat):Int),()),rfl,rfl,xs.length,.inl rfl,rfl,hk,sw,hq⟩
 obtain ⟨h3,rfl,h4⟩:=h3;unfold iF kc;rw [h1,h2];refine ⟨n,?_,rfl,h4⟩;rcases h3 with rfl | rfl<;>rfl
end Go.TM
set_option linter.unusedSimpArgs false
set_option linter.unusedVariables false
namespace Go.TM
open Go
abbrev EvR:Type:=Int×Int×(List (Int×Unit))×Int×Int×Int×ByteArray×(List (Int×Unit))×Unit
theorem JJ (xs:List EvR) {k:Nat} (hk:k<xs.length) (h:xs.length+wl bD xs≤1048576):xs[k].2.2.1.length≤1048576∧xs[k].q.2.2.1.length≤1048576:=by
 have hw:=FK bD xs xs[k] (List.getElem_mem hk);have:bD xs[k]=(List.length xs[k].2.2.1+wl kY xs[k].2.2.1)+ByteArray.size xs[k].q.2.1+(List.length xs[k].q.2.2.1+wl kY xs[k].q.2.2.1):=rfl;omega
theorem AQ (xs:List EvR) (h:xs.length+wl bD xs≤1048576):gv xs=some (xs,()):=by
 have hl:=bP (round:=dg) (e:=.inl (xs,())) xs.length (fun k=>(xs,xs.take k,((k:Nat):Int),())) (by
  simp only [dg,iA,aF,aJ,cond_false,List.take_length]) (fun k hk=>by
  obtain ⟨e1,e2⟩:=JJ xs hk h;simp only [dg,iA,aF,aD hk,au,cond_true,aC,List.getElem?_eq_getElem hk,Option.bind_some,List.length_take,Nat.min_eq_left (Nat.le_of_lt hk),aW (show (0+xs[k].2.2.1.length)*8≤lim by unfold lim;omega),aW (show (0+xs[k].q.2.2.1.length)*8≤lim by unfold lim;omega),aW (show (k+1)*104≤lim by unfold lim;omega),aH (show k<4611686018427387904 by omega),List.nil_append];rw [List.take_succ_eq_append_getElem hk])
 have hl:aI dg (xs,[],(0:Int),())=_:=hl;unfold gv;rw [hl];rfl
theorem uL (xs:List EvR) (h:xs.length+wl bD xs≤1048576):po xs=some (xs,()):=by
 have hl:=bP (round:=kD) (e:=.inl (xs,())) xs.length (fun k=>(xs.take k,xs,((xs.length:Nat):Int),((k:Nat):Int),())) (by
  simp only [kD,ax,uD,bz,dz,aJ,cond_false,List.take_length]) (fun k hk=>by
  obtain ⟨e1,e2⟩:=JJ xs hk h;simp only [kD,ax,uD,bz,dz,wJ,bN,kJ _ e1,kJ _ e2,aD hk,au,cond_true,aC,List.getElem?_eq_getElem hk,Option.bind_some,List.length_take,Nat.min_eq_left (Nat.le_of_lt hk),aW (show (k+1)*104≤lim by unfold lim;omega),aH (show k<4611686018427387904 by omega)];rw [List.take_succ_eq_append_getElem hk])
 have hl:aI kD ([],xs,((xs.length:Nat):Int),(0:Int),())=_:=hl;unfold po;rw [hl];rfl
end Go.TM
set_option linter.unusedSimpArgs false
set_option linter.unusedVariables false
namespace Go.TM
open Go
theorem GW (a b c:Int) (xs:List (Int×Int×Int×ByteArray×Unit)) (h:xs.length≤1048576):∃x,iN a b c xs=some (x,())∧jD a b c xs=some (x,()):=by
 obtain ⟨y,h1,h2⟩:=DV xs h;unfold iN jD;simp only [ni,qI,pw,Option.bind_some,h1,h2]
 cases (decide (1≤a)&&decide (a≤5))
 ·exact ⟨_,rfl,rfl⟩
 cases (decide (1≤b)&&decide (b≤9))
 ·exact ⟨_,rfl,rfl⟩
 cases (decide (0≤c)&&decide (c≤IntKind.i64.wrap (b-1)))
 ·exact ⟨_,rfl,rfl⟩
 cases y
 ·exact ⟨_,rfl,rfl⟩
 cases decide (0<c)
 ·exact ⟨_,rfl,rfl⟩
 ·exact ⟨_,rfl,rfl⟩
abbrev eC:Type:=Int×Int×Int×aZ×Unit
noncomputable def qU (b:eC):Bool:=match iN b.1 b.2.1 b.2.2.1 b.2.2.2.1 with | some x=>x.1 | none=>false
theorem sW (b:eC) (h:b.2.2.2.1.length≤1048576):iN b.1 b.2.1 b.2.2.1 b.2.2.2.1=some (qU b,())∧jD b.1 b.2.1 b.2.2.1 b.2.2.2.1=some (qU b,()):=by
 obtain ⟨x,h1,h2⟩:=GW b.1 b.2.1 b.2.2.1 b.2.2.2.1 h;have:qU b=x:=by unfold qU;rw [h1]
 rw [this];exact ⟨h1,h2⟩
theorem E1 (xs:List eC) {k:Nat} (hk:k<xs.length) (h:xs.length+wl fc xs≤1048576):xs[k].2.2.2.1.length≤1048576:=by
 have hw:=FK fc xs xs[k] (List.getElem_mem hk);have:fc xs[k]=List.length xs[k].2.2.2.1+wl ec xs[k].2.2.2.1:=rfl;omega
structure jF (xs:List eC):Prop where
 len:xs.length≤4194304
 each:∀b∈xs,b.2.2.2.1.length≤1048576
theorem jF.at {xs:List eC} (h:jF xs) {k:Nat} (hk:k<xs.length):xs[k].2.2.2.1.length≤1048576:=h.each _ (List.getElem_mem hk)
theorem jF.of {xs:List eC} (h:xs.length+wl fc xs≤1048576):jF xs:=⟨by omega,fun b hb=>by
 obtain ⟨k,hk,rfl⟩:=List.mem_iff_getElem.1 hb;exact E1 xs hk h⟩
theorem jF.more {xs:List eC} (h:xs.length+wl fc xs≤1048576) {b:eC} (hb:b.2.2.2.1.length≤1048576):jF (xs++[b]):=⟨by rw [List.length_append,List.length_singleton];omega,fun x hx=>by
 rcases List.mem_append.1 hx with hx | hx
 ·exact (jF.of h).each x hx
 ·rw [List.mem_singleton] at hx;subst hx;exact hb⟩
noncomputable def il (xs:List eC) (c id:Int):Option eC:=xs.find? fun b=>decide (b.1=id)&&(decide (b.2.1=c)&&qU b)
abbrev uM:Option eC→Int×Int×Int×aZ×Bool×Unit
 |none=>(0,0,0,[],false,())
 |some b=>(b.1,b.2.1,b.2.2.1,b.2.2.2.1,true,())
def Zb:Option eC→Sum (Int×Int×Int×aZ×Unit) (Int×Int×Int×aZ×Bool×Unit)
 |none=>.inl (0,0,0,[],())
 |some b=>.inr (uM (some b))
theorem JK (xs:List eC) (c id:Int) {k:Nat} (hk:k<xs.length):il (xs.drop k) c id=if (decide (xs[k].1=id)&&(decide (xs[k].2.1=c)&&qU xs[k]))=true then some xs[k] else il (xs.drop (k+1)) c id:=by
 unfold il;rw [List.drop_eq_getElem_cons hk,List.find?_cons]
 cases (decide (xs[k].1=id)&&(decide (xs[k].2.1=c)&&qU xs[k]))<;>rfl
theorem Ge {xs:List eC} {c id:Int} {b:eC} (h:il xs c id=some b):b∈xs∧b.1=id∧b.2.1=c∧qU b=true:=by
 unfold il at h;have:=List.find?_some h;simp only [Bool.and_eq_true,decide_eq_true_eq] at this;exact ⟨List.mem_of_find?_eq_some h,this⟩
theorem sX (bL:Int) (bI:List (Int×Unit)) (xs:List eC) (id:Int) (h:jF xs):eb bL bI xs id=some (uM (il xs bL id)):=by
 have Wk:=h.len;have hl:=tI (round:=jP) (n:=xs.length) (fun k=>(xs,id,bL,bI,(0:Int),(0:Int),(0:Int),[],((k:Nat):Int),())) (fun k=>some (Zb (il (xs.drop k) bL id)))
  ⟨.inl (0,0,0,[],()),by simp only [jP,bz,sH,ax,aF,aJ,cond_false],by rw [List.drop_length];rfl⟩ (fun k hk=>by
   have hb:=(sW xs[k] (h.at hk)).1;rw [JK xs bL id hk];simp only [jP,bz,sH,ax,aF,aD hk,au,cond_true,aC,List.getElem?_eq_getElem hk,Option.bind_some,hb,aH (show k<4611686018427387904 by omega)]
   cases decide (xs[k].1=id)
   ·exact .inr ⟨rfl,rfl⟩
   cases decide (xs[k].2.1=bL)
   ·exact .inr ⟨rfl,rfl⟩
   cases qU xs[k]
   ·exact .inr ⟨rfl,rfl⟩
   ·exact .inl ⟨_,rfl,rfl⟩) 0 (Nat.zero_le _)
 unfold eb;have hl:aI jP (xs,id,bL,bI,(0:Int),(0:Int),(0:Int),[],(0:Int),())=_:=hl;rw [hl,List.drop_zero]
 cases il xs bL id<;>rfl
theorem wY (bL:Int) (bI:List (Int×Unit)) (xs:List eC) (id:Int) (h:jF xs):jE bL bI xs id=some (uM (il xs bL id)):=by
 have Wk:=h.len;have hl:=tI (round:=jV) (n:=xs.length) (fun k=>(id,bL,bI,(0:Int),(0:Int),(0:Int),[],xs,((xs.length:Nat):Int),((k:Nat):Int),())) (fun k=>some (Zb (il (xs.drop k) bL id)))
  ⟨.inl (0,0,0,[],()),by simp only [jV,bz,sQ,ax,aF,aJ,cond_false],by rw [List.drop_length];rfl⟩ (fun k hk=>by
   have hb:=(sW xs[k] (h.at hk)).2;rw [JK xs bL id hk];simp only [jV,bz,sQ,ax,aF,aD hk,au,cond_true,aC,List.getElem?_eq_getElem hk,Option.bind_some,hb,aH (show k<4611686018427387904 by omega)]
   cases decide (xs[k].1=id)
   ·exact .inr ⟨rfl,rfl⟩
   cases decide (xs[k].2.1=bL)
   ·exact .inr ⟨rfl,rfl⟩
   cases qU xs[k]
   ·exact .inr ⟨rfl,rfl⟩
   ·exact .inl ⟨_,rfl,rfl⟩) 0 (Nat.zero_le _)
 unfold jE;have hl:aI jV (id,bL,bI,(0:Int),(0:Int),(0:Int),[],xs,((xs.length:Nat):Int),(0:Int),())=_:=hl;rw [hl,List.drop_zero]
 cases il xs bL id<;>rfl
noncomputable def iX (xs:List eC) (c id:Int) (gX:eC) (out:List (Int×Unit)) (d:Int):List (Int×Unit):=
 match il xs c d with
 |none=>out
 |some b=>if (d=id∨(b.2.2.1=gX.2.2.1∧0<b.2.2.1))∧(d,())∉out then out++[(d,())] else out
theorem E2 (xs:List eC) (c id:Int) (gX:eC) (out:List (Int×Unit)) (d:Int):(iX xs c id gX out d).length≤out.length+1:=by
 unfold iX
 split
 ·omega
 ·split
  ·simp
  ·omega
noncomputable def fw (xs:List eC) (c:Int) (ms:List (Int×Unit)) (id:Int):List (Int×Unit):=
 match il xs c id with
 |none=>[]
 |some gX=>ms.foldl (fun out m=>iX xs c id gX out m.1) []
theorem Ai (xs:List (Int×Unit)) (d:Int) (h:xs.length≤1048576):dA xs d=some (decide ((d,())∈xs),()):=by
 have hl:=tI (round:=eY) (n:=xs.length) (fun k=>(xs,d,((k:Nat):Int),())) (fun k=>some (if (d,())∈xs.drop k then .inr (true,()) else .inl ()))
  ⟨.inl (),by simp only [eY,lr,aJ,cond_false],by rw [List.drop_length];rfl⟩ (fun k hk=>by
   rw [List.drop_eq_getElem_cons hk];simp only [eY,lr,aD hk,au,cond_true,aC,List.getElem?_eq_getElem hk,Option.bind_some,aH (show k<4611686018427387904 by omega)]
   by_cases e:xs[k].1=d
   ·rw [aq e];exact .inl ⟨_,rfl,by rw [if_pos (List.mem_cons.2 (.inl (by rw [←e])))]⟩
   ·rw [ak e];refine .inr ⟨rfl,?_⟩;have:((d,())∈xs[k]::xs.drop (k+1))↔((d,())∈xs.drop (k+1)):=by
     rw [List.mem_cons];exact ⟨fun h=>h.resolve_left (fun q=>e (by rw [←q])),.inr⟩
    by_cases q:(d,())∈xs.drop (k+1)
    ·rw [if_pos q,if_pos (this.2 q)]
    ·rw [if_neg q,if_neg (fun z=>q (this.1 z))]) 0 (Nat.zero_le _)
 unfold dA;have hl:aI eY (xs,d,(0:Int),())=_:=hl;rw [hl,List.drop_zero]
 by_cases q:(d,())∈xs
 ·rw [if_pos q,aq q];rfl
 ·rw [if_neg q,ak q];rfl
theorem Hy (xs:List (Int×Unit)) (d:Int) (h:xs.length≤1048576):cK xs d=some (decide ((d,())∈xs),()):=by
 obtain ⟨b,h1,h2⟩:=qb d xs h;rw [Ai xs d h] at h1;injection h1 with h1;injection h1 with h1 _;rw [h2,h1]
theorem vO {α β:Type} (f:β→α→β) (b:β) (xs:List α) {k:Nat} (hk:k<xs.length):(xs.take (k+1)).foldl f b=f ((xs.take k).foldl f b) xs[k]:=by
 rw [List.take_succ_eq_append_getElem hk,List.foldl_append];rfl
theorem Aj (xs:List eC) (c id:Int) (gX:eC) (ms:List (Int×Unit)) (out:List (Int×Unit)):(ms.foldl (fun out m=>iX xs c id gX out m.1) out).length≤out.length+ms.length:=by
 induction ms generalizing out with
 |nil=>simp
 |cons m ms ih=>
  rw [List.foldl_cons,List.length_cons];have h1:=ih (iX xs c id gX out m.1);have h2:=E2 xs c id gX out m.1;omega
theorem tz (bL:Int) (bI:List (Int×Unit)) (xs:List eC) (id:Int) (h0:bI.length≤1048576) (h:jF xs) :
  jb bL bI xs id=some (fw xs bL bI id,())∧jc bL bI xs id=some (fw xs bL bI id,())∧(fw xs bL bI id).length≤bI.length:=by
 have Wk:=h.len;unfold jb jc fw;delta aF;rw [sX _ _ _ _ h,wY _ _ _ _ h]
 cases hm:il xs bL id with
 |none=>exact ⟨rfl,rfl,Nat.zero_le _⟩
 |some gX=>
  have mS:=(Ge hm).2.1;have hlen:=Aj xs bL id gX bI [];rw [List.length_nil,Nat.zero_add] at hlen;have hk8:∀k,k<bI.length→Nat.ble ((((bI.take k).foldl (fun out m=>iX xs bL id gX out m.1) []).length+1)*8) lim=true:=fun k hk=>by
   have:=Aj xs bL id gX (bI.take k) [];rw [List.length_nil,Nat.zero_add,List.length_take] at this;exact aW (by unfold lim;omega)
  have Hf:∀k,k<bI.length→((bI.take k).foldl (fun out m=>iX xs bL id gX out m.1) []).length≤1048576:=fun k hk=>by
   have:=Aj xs bL id gX (bI.take k) [];rw [List.length_nil,Nat.zero_add,List.length_take] at this;omega
  have l1:=bP (round:=fF) (e:=.inl (bI.foldl (fun out m=>iX xs bL id gX out m.1) [],())) bI.length (fun k=>(xs,id,bL,bI,(bI.take k).foldl (fun out m=>iX xs bL id gX out m.1) [],gX.1,gX.2.1,gX.2.2.1,gX.2.2.2.1,((k:Nat):Int),())) (by
   simp only [fF,bz,iV,aJ,cond_false,List.take_length]) (fun k hk=>by
   rw [vO _ _ _ hk];have e8:=hk8 k hk;have ei:=Hf k hk;generalize (bI.take k).foldl (fun out m=>iX xs bL id gX out m.1) []=out at e8 ei ⊢;simp only [fF,bz,iV,aD hk,au,cond_true,aC,List.getElem?_eq_getElem hk,Option.bind_some,sX _ _ _ _ h,aH (show k<4611686018427387904 by omega)];unfold iX
   cases hb:il xs bL bI[k].1 with
   |none=>rfl
   |some b=>
    have hf:=(Ge hb).2.1;simp only [uM,hf,Ai _ _ ei,Option.bind_some,cond_true,e8]
    by_cases q1:bI[k].1=id
    ·rw [aq q1]
     by_cases q3:(bI[k].1,())∈out
     ·rw [aq q3,if_neg (fun z=>z.2 q3)];rfl
     ·rw [ak q3,if_pos ⟨.inl q1,q3⟩];rfl
    rw [ak q1]
    by_cases q2:b.2.2.1=gX.2.2.1
    ·rw [aq q2]
     by_cases q4:0<b.2.2.1
     ·rw [aq q4]
      by_cases q3:(bI[k].1,())∈out
      ·rw [aq q3,if_neg (fun z=>z.2 q3)];rfl
      ·rw [ak q3,if_pos ⟨.inr ⟨q2,q4⟩,q3⟩];rfl
     ·rw [ak q4,if_neg (fun z=>z.1.elim q1 (fun w=>q4 w.2))];rfl
    ·rw [ak q2,if_neg (fun z=>z.1.elim q1 (fun w=>q2 w.1))];rfl)
  have l2:=bP (round:=gH) (e:=.inl (bI.foldl (fun out m=>iX xs bL id gX out m.1) [],())) bI.length (fun k=>(xs,id,bL,bI,gX.1,gX.2.1,gX.2.2.1,gX.2.2.2.1,(bI.take k).foldl (fun out m=>iX xs bL id gX out m.1) [],bI,((bI.length:Nat):Int),((k:Nat):Int),())) (by
   simp only [gH,kq,oS,aJ,cond_false,List.take_length]) (fun k hk=>by
   rw [vO _ _ _ hk];have e8:=hk8 k hk;have ei:=Hf k hk;generalize (bI.take k).foldl (fun out m=>iX xs bL id gX out m.1) []=out at e8 ei ⊢;simp only [gH,kq,oS,aD hk,au,cond_true,aC,List.getElem?_eq_getElem hk,Option.bind_some,wY _ _ _ _ h,aH (show k<4611686018427387904 by omega)];unfold iX
   cases hb:il xs bL bI[k].1 with
   |none=>rfl
   |some b=>
    simp only [uM,Hy _ _ ei,Option.bind_some,cond_true,e8]
    by_cases q3:(bI[k].1,())∈out
    ·rw [aq q3,if_neg (fun z=>z.2 q3)];rfl
    rw [ak q3]
    by_cases q1:bI[k].1=id
    ·rw [aq q1,if_pos ⟨.inl q1,q3⟩];rfl
    rw [ak q1]
    by_cases q4:0<gX.2.2.1
    ·rw [aq q4]
     by_cases q2:b.2.2.1=gX.2.2.1
     ·rw [Y9 q2,if_pos ⟨.inr ⟨q2,by omega⟩,q3⟩];rfl
     ·rw [VH q2,if_neg (fun z=>z.1.elim q1 (fun w=>q2 w.1))];rfl
    ·rw [ak q4,if_neg (fun z=>z.1.elim q1 (fun w=>q4 (by omega)))];rfl)
  have l1:aI fF (xs,id,bL,bI,[],gX.1,gX.2.1,gX.2.2.1,gX.2.2.2.1,(0:Int),())=_:=l1;have l2:aI gH (xs,id,bL,bI,gX.1,gX.2.1,gX.2.2.1,gX.2.2.2.1,[],bI,((bI.length:Nat):Int),(0:Int),())=_:=l2;simp only [uM,Option.bind_some,Bool.not_true,cond_false,l1,l2];exact ⟨rfl,rfl,hlen⟩
end Go.TM
set_option linter.unusedSimpArgs false
set_option linter.unusedVariables false
namespace Go.TM
open Go
def yC (l:List (Int×Unit)) (n:Nat):Prop:=∀j (h:j<l.length),j<n→(decide (1≤l[j].1)&&decide (l[j].1≤2))=true
def la (l:List (ByteArray×Unit)) (n:Nat):Prop:=∀j (h:j<l.length),j<n→ByteArray.size l[j].1≤60
def Zc (lv:List (Int×Unit)) (tx:List (ByteArray×Unit)):Sum (List (Int×Unit)×List (ByteArray×Unit)×Unit) (Bool×Unit)→Prop
 |.inl y=>y=(lv,tx,())∧yC lv (min lv.length tx.length)∧la tx (min lv.length tx.length)
 |.inr b=>b.1=false∧¬(yC lv (min lv.length tx.length)∧la tx (min lv.length tx.length))
theorem DX (lv:List (Int×Unit)) (tx:List (ByteArray×Unit)) (h1:lv.length≤1048576) (h2:tx.length≤1048576):∃b,tj lv tx=some (b,())∧(b=true↔tx.length≤20∧lv.length=tx.length∧yC lv lv.length∧la tx tx.length):=by
 obtain ⟨e,he,hq⟩:=dU (round:=jN) (x:=(lv,tx,((0:Nat):Int),())) (min lv.length tx.length) (fun k x=>x=(lv,tx,((k:Nat):Int),())∧yC lv k∧la tx k) (Zc lv tx) (by
   rintro x ⟨rfl,g1,g2⟩
   refine ⟨.inl (lv,tx,()),?_,rfl,g1,g2⟩
   by_cases hb:min lv.length tx.length<tx.length
   ·have e:min lv.length tx.length=lv.length:=by omega
    simp only [jN,pc,aD hb,cond_true];rw [e,aJ];rfl
   ·have e:min lv.length tx.length=tx.length:=by omega
    simp only [jN,pc];rw [e,aJ];rfl) (by
   rintro k x hk ⟨rfl,g1,g2⟩
   have hl:k<lv.length:=by omega
   have ht:k<tx.length:=by omega
   simp only [jN,pc,aD hl,aD ht,au,cond_true,aC,List.getElem?_eq_getElem hl,List.getElem?_eq_getElem ht,Option.bind_some,ni,aH (show k<4611686018427387904 by omega)]
   cases hlv:(decide (1≤lv[k].1)&&decide (lv[k].1≤2))
   ·refine .inl ⟨.inr (false,()),rfl,rfl,fun hn => ?_⟩;have:=hn.1 k hl (by omega);rw [hlv] at this
    cases this
   ·by_cases hs:(60:Int)<((ByteArray.size tx[k].1:Nat):Int)
    ·rw [aq hs];refine .inl ⟨.inr (false,()),rfl,rfl,fun hn => ?_⟩;have:=hn.2 k ht (by omega);omega
    ·rw [ak hs];refine .inr ⟨_,rfl,rfl,fun j hj N0 => ?_,fun j hj N0 => ?_⟩
     ·by_cases e:j<k
      ·exact g1 j hj e
      ·have:j=k:=by omega
       subst this;exact hlv
     ·by_cases e:j<k
      ·exact g2 j hj e
      ·have:j=k:=by omega
       subst this;omega) ⟨rfl,fun j _ h=>by omega,fun j _ h=>by omega⟩
 unfold tj;rw [show (0:Int)=((0:Nat):Int) from rfl,he]
 cases e with
 |inr e=>
  obtain ⟨q1,q2⟩:=hq;refine ⟨false,by rw [←q1];rfl,⟨(fun h=>by cases h),fun ⟨w1,w2,w3,w4⟩ => ?_⟩⟩;exact absurd ⟨fun j hj hm=>w3 j hj hj,fun j hj hm=>w4 j hj hj⟩ q2
 |inl e=>
  obtain ⟨q1,q2,q3⟩:=hq;subst q1;simp only [oA]
  by_cases w1:((List.length tx:Nat):Int)≤20
  ·rw [aq w1];refine ⟨_,rfl,?_⟩;rw [decide_eq_true_eq]
   constructor
   ·intro w2;have w2:lv.length=tx.length:=by omega
    exact ⟨by omega,w2,fun j hj _=>q2 j hj (by omega),fun j hj _=>q3 j hj (by omega)⟩
   ·rintro ⟨_,w2,_⟩
    rw [w2]
  ·rw [ak w1];exact ⟨false,rfl,⟨(fun h=>by cases h),fun ⟨w2,_⟩=>by omega⟩⟩
theorem RE (tx:List (ByteArray×Unit)) (h2:tx.length≤1048576):∃b,tu tx=some (b,())∧(b=true↔la tx tx.length):=by
 obtain ⟨e,he,hq⟩:=dU (round:=mb) (x:=(tx,((List.length tx:Nat):Int),((0:Nat):Int),())) tx.length (fun k x=>x=(tx,((List.length tx:Nat):Int),((k:Nat):Int),())∧la tx k) (fun e=>(e=.inl ()∧la tx tx.length)∨(e=.inr (false,())∧¬la tx tx.length)) (by
   rintro x ⟨rfl,g2⟩
   exact ⟨.inl (),by simp only [mb,sN,aJ,cond_false],.inl ⟨rfl,g2⟩⟩) (by
   rintro k x hk ⟨rfl,g2⟩
   simp only [mb,sN,aD hk,au,cond_true,aC,List.getElem?_eq_getElem hk,Option.bind_some,aH (show k<4611686018427387904 by omega)]
   by_cases hs:(60:Int)<((ByteArray.size tx[k].1:Nat):Int)
   ·rw [aq hs];refine .inl ⟨.inr (false,()),rfl,.inr ⟨rfl,fun hn => ?_⟩⟩;have:=hn k hk hk;omega
   ·rw [ak hs];refine .inr ⟨_,rfl,rfl,fun j hj N0 => ?_⟩
    by_cases e:j<k
    ·exact g2 j hj e
    ·have:j=k:=by omega
     subst this;omega) ⟨rfl,fun j _ h=>by omega⟩
 unfold tu;rw [show (0:Int)=((0:Nat):Int) from rfl,he];rcases hq with ⟨rfl,q⟩ | ⟨rfl,q⟩
 ·exact ⟨true,rfl,⟨fun _=>q,fun _=>rfl⟩⟩
 ·exact ⟨false,rfl,⟨(fun h=>by cases h),fun h=>absurd h q⟩⟩
theorem Ak (c0 c1 c2 c3 c4:Int) (xs:List (Int×Unit)):∃b,fI c0 c1 c2 c3 c4 xs=some (b,())∧db c0 c1 c2 c3 c4 xs=some (b,()):=by
 unfold fI rD db
 cases decide (c0=0)
 ·exact ⟨_,rfl,rfl⟩
 cases decide (c1=0)
 ·exact ⟨_,rfl,rfl⟩
 cases decide (c2=0)
 ·exact ⟨_,rfl,rfl⟩
 cases decide (c3=0)
 ·exact ⟨_,rfl,rfl⟩
 cases decide (c4=0)
 ·exact ⟨_,rfl,rfl⟩
 cases xs with
 |nil=>
  have hl:=bP (round:=jv) (e:=.inl ()) 0 (fun k=>(([]:List (Int×Unit)),([]:List (Int×Unit)),((k:Nat):Int),())) (by
   simp only [jv,uU,List.length_nil,aJ,cond_false]) (fun k hk=>by omega)
  have hl:aI jv (([]:List (Int×Unit)),([]:List (Int×Unit)),(0:Int),())=_:=hl;refine ⟨true,?_,rfl⟩;simp only [cond_true,pb,List.length_nil,decide_true,Bool.not_true,cond_false,hl,oA,Option.bind_some]
 |cons x xs=>
  have e:decide (((List.length (x::xs):Nat):Int)=(0:Int))=false:=ak (by rw [List.length_cons];omega);have e2:decide (((List.length (x::xs):Nat):Int)=((List.length ([]:List (Int×Unit)):Nat):Int))=false:=e;refine ⟨false,?_,?_⟩
  ·simp only [cond_true,pb,e2,Bool.not_false,Option.bind_some]
  ·simp only [cond_true,e]
abbrev acD:Type:=Int×Int×(List (Int×Unit))×aZ×(List (Int×Unit))×(List (ByteArray×Unit))×Int×Int×Int×Int×Int×Int×Int×Int×Int×(List (Int×Unit))×Unit
def air (m:acD) (lv:List (Int×Unit)):Sum acD (Bool×Unit)→Prop
 |.inl y=>y=m∧yC lv lv.length
 |.inr b=>b.1=false∧¬yC lv lv.length
theorem GX (eH:Int) (eB:Int) (dL:List (Int×Unit)) (dH:List (Int×Int×Int×ByteArray×Unit)) (dx:List (Int×Unit)) (dM:List (ByteArray×Unit)) (eT:Int) (fq:Int) (ft:Int) (fu:Int) (cO:Int) (cP:Int) (cQ:Int) (cR:Int) (cS:Int) (cF:List (Int×Unit))
  (h0:(List.length dL+wl kY dL)+(List.length dH+wl ec dH)+(List.length dx+wl kY dx)+(List.length dM+wl KM dM)+(List.length cF+wl kY cF)≤1048576):∃o0,fD eH eB dL dH dx dM eT fq ft fu cO cP cQ cR cS cF=some (o0,())∧ik eH eB dL dH dx dM eT fq ft fu cO cP cQ cR cS cF=some (o0,()):=by
 obtain ⟨b1,r1,r2,_⟩:=vN eB dL (by omega);obtain ⟨b2,c1,c2⟩:=qb eH dL (by omega);obtain ⟨b3,i1,i2⟩:=DV dH (by omega);obtain ⟨b4,t1,t2⟩:=DX dx dM (by omega) (by omega);obtain ⟨b5,s1,s2⟩:=RE dM (by omega);obtain ⟨n,a1,a2,_⟩:=E0 dH (by omega);obtain ⟨b6,z1,z2⟩:=Ak cO cP cQ cR cS cF;obtain ⟨b7,k1,k2,_⟩:=wX cO cP cQ cR cS cF (by omega);obtain ⟨e,he,hq⟩:=dU (round:=me) (x:=(eH,eB,dL,dH,dx,dM,eT,fq,ft,fu,cO,cP,cQ,cR,cS,cF,dx,((List.length dx:Nat):Int),((0:Nat):Int),())) dx.length
  (fun k x=>x=(eH,eB,dL,dH,dx,dM,eT,fq,ft,fu,cO,cP,cQ,cR,cS,cF,dx,((List.length dx:Nat):Int),((k:Nat):Int),())∧yC dx k)
  (air (eH,eB,dL,dH,dx,dM,eT,fq,ft,fu,cO,cP,cQ,cR,cS,cF,()) dx) (by
   rintro x ⟨rfl,g⟩
   exact ⟨.inl _,by simp only [me,aX,wI,aJ,cond_false],rfl,g⟩) (by
   rintro k x hk ⟨rfl,g⟩
   simp only [me,aX,wI,aD hk,au,cond_true,aC,List.getElem?_eq_getElem hk,Option.bind_some,Cb,aH (show k<4611686018427387904 by omega)]
   cases hlv:(decide (1≤dx[k].1)&&decide (dx[k].1≤2))
   ·refine .inl ⟨.inr (false,()),rfl,rfl,fun hn => ?_⟩;have:=hn k hk hk;rw [hlv] at this
    cases this
   ·refine .inr ⟨_,rfl,rfl,fun j hj N0 => ?_⟩
    by_cases e:j<k
    ·exact g j hj e
    ·have:j=k:=by omega
     subst this;exact hlv) ⟨rfl,fun j _ h=>by omega⟩
 have he:aI me (eH,eB,dL,dH,dx,dM,eT,fq,ft,fu,cO,cP,cQ,cR,cS,cF,dx,((List.length dx:Nat):Int),(0:Int),())=some e:=he;unfold fD ik;delta aP;simp only [r1,r2,c1,c2,i1,i2,t1,s1,Option.bind_some,he]
 cases b1
 ·cases b2
  ·exact ⟨_,rfl,rfl⟩
  ·exact ⟨_,rfl,rfl⟩
 cases b2
 ·exact ⟨_,rfl,rfl⟩
 cases b3
 ·exact ⟨_,rfl,rfl⟩
 simp only [Bool.not_true,cond_false]
 by_cases w1:(20:Int)<((List.length dM:Nat):Int)
 ·have:b4=false:=by
   cases b4
   ·rfl
   ·have:=(t2.1 rfl).1;omega
  subst this;rw [aq w1];exact ⟨_,rfl,rfl⟩
 rw [ak w1]
 cases b5
 ·have:b4=false:=by
   cases b4
   ·rfl
   ·have:=s2.2 (t2.1 rfl).2.2.2;cases this
  subst this;exact ⟨_,rfl,rfl⟩
 by_cases w2:((List.length dx:Nat):Int)=((List.length dM:Nat):Int)
 case neg=>
  have:b4=false:=by
   cases b4
   ·rfl
   ·have:=(t2.1 rfl).2.1;omega
  subst this;rw [ak w2];exact ⟨_,rfl,rfl⟩
 rw [aq w2]
 cases e with
 |inr e=>
  obtain ⟨q1,q2⟩:=hq;have:b4=false:=by
   cases b4
   ·rfl
   ·exact absurd (t2.1 rfl).2.2.1 q2
  subst this;refine ⟨false,rfl,?_⟩;show some (e.1,())=_;rw [q1]
 |inl e=>
  obtain ⟨q1,q2⟩:=hq;subst q1;have:b4=true:=t2.2 ⟨by omega,by omega,q2,s2.1 rfl⟩;subst this;simp only [Bool.not_true,cond_false,oA,a1,a2,z1,z2,k1,k2,ni,qI,Option.bind_some]
  cases (decide (0≤eT)&&decide (eT≤1000000000))
  ·exact ⟨_,rfl,rfl⟩
  cases (decide (0≤fq)&&decide (fq≤60))
  ·exact ⟨_,rfl,rfl⟩
  cases (decide (0≤ft)&&decide (ft≤((n:Nat):Int)))
  ·exact ⟨_,rfl,rfl⟩
  cases (decide (0≤fu)&&decide (fu≤((n:Nat):Int)))
  ·exact ⟨_,rfl,rfl⟩
  cases b6
  ·exact ⟨_,rfl,rfl⟩
  ·exact ⟨_,rfl,rfl⟩
end Go.TM
set_option linter.unusedSimpArgs false
set_option linter.unusedVariables false
namespace Go.TM
open Go
def qV (r:ez):Prop:=(1≤r.1∧r.1≤60)∧(1≤r.2.1∧r.2.1≤5)∧(1≤r.2.2.1∧r.2.2.1≤2)∧ByteArray.size r.2.2.2.1≤60
def fx (xs:aZ) (n:Nat):Prop:=∀k (h:k<xs.length),k<n→qV xs[k]∧∀h0:0<k,xs[k-1].1<xs[k].1
theorem PJ (a b c:Int) (s:ByteArray):∃x,kQ a b c s=some (x,())∧mA a b c s=some (x,())∧(x=true↔qV (a,b,c,s,())):=by
 have hi:∀ {p q r:Prop} [Decidable p] [Decidable q],(decide p&&decide q)=false→¬((p∧q)∧r):=by
  intro p q r _ _ h ⟨h1,_⟩;rw [decide_eq_true h1.1,decide_eq_true h1.2] at h
  cases h
 unfold kQ mA qV;simp only [ni,qI,pw,Cb,Option.bind_some]
 cases h1:(decide (1≤a)&&decide (a≤60))
 ·exact ⟨false,rfl,rfl,⟨fun h=>(by cases h),fun h=>absurd h (hi h1)⟩⟩
 rw [Bool.and_eq_true,decide_eq_true_eq,decide_eq_true_eq] at h1
 cases h2:(decide (1≤b)&&decide (b≤5))
 ·exact ⟨false,rfl,rfl,⟨fun h=>(by cases h),fun h=>absurd h.2 (hi h2)⟩⟩
 rw [Bool.and_eq_true,decide_eq_true_eq,decide_eq_true_eq] at h2
 cases h3:(decide (1≤c)&&decide (c≤2))
 ·exact ⟨false,rfl,rfl,⟨fun h=>(by cases h),fun h=>absurd h.2.2 (hi h3)⟩⟩
 rw [Bool.and_eq_true,decide_eq_true_eq,decide_eq_true_eq] at h3;refine ⟨_,rfl,rfl,?_⟩;rw [decide_eq_true_eq];exact ⟨fun h=>⟨h1,h2,h3,by omega⟩,fun h=>by have:=h.2.2.2;omega⟩
theorem L8 (xs:aZ) (h:xs.length≤1048576):∃b,gS xs=some (b,())∧jA xs=some (b,())∧(b=true↔fx xs xs.length):=by
 obtain ⟨b,h1,h2⟩:=DV xs h;refine ⟨b,h1,h2,?_⟩;obtain ⟨e,he,hq⟩:=dU (round:=gk) (x:=(xs,((0:Nat):Int),())) xs.length (fun k x=>x=(xs,((k:Nat):Int),())∧fx xs k) (fun e=>(e=.inl ()∧fx xs xs.length)∨(e=.inr (false,())∧¬fx xs xs.length)) (by
   rintro x ⟨rfl,g⟩
   exact ⟨.inl (),by simp only [gk,mW,ax,aJ,cond_false],.inl ⟨rfl,g⟩⟩) (by
   rintro k x hk ⟨rfl,g⟩
   obtain ⟨b,r1,_,r3⟩:=PJ xs[k].1 xs[k].2.1 xs[k].2.2.1 xs[k].2.2.2.1;have r3:b=true↔qV xs[k]:=r3;simp only [gk,mW,ax,aD hk,au,cond_true,aC,List.getElem?_eq_getElem hk,Option.bind_some,r1,aH (show k<4611686018427387904 by omega)];have more:qV xs[k]→(∀h0:0<k,xs[k-1].1<xs[k].1)→fx xs (k+1):=fun q1 q2 j hj N0=>by
    by_cases e:j<k
    ·exact g j hj e
    ·have:j=k:=by omega
     subst this;exact ⟨q1,q2⟩
   cases b
   ·exact .inl ⟨.inr (false,()),rfl,.inr ⟨rfl,fun hn=>absurd (r3.2 (hn k hk hk).1) (by simp)⟩⟩
   ·have q1:=r3.1 rfl
    by_cases h0:0<k
    ·have hp:k-1<xs.length:=by omega
     rw [vM h0 (by omega)];simp only [aq (show (0:Int)<((k:Nat):Int) by omega),Bool.not_true,cond_false,cond_true,au,aC,List.getElem?_eq_getElem hp,Option.bind_some]
     by_cases hs:xs[k].1≤xs[k-1].1
     ·rw [aq hs];refine .inl ⟨.inr (false,()),rfl,.inr ⟨rfl,fun hn => ?_⟩⟩;have:=(hn k hk hk).2 h0;omega
     ·rw [ak hs];exact .inr ⟨_,rfl,rfl,more q1 (fun _=>by omega)⟩
    ·have:k=0:=by omega
     subst this;simp only [ak (show ¬(0:Int)<((0:Nat):Int) by omega),Bool.not_true,cond_false];exact .inr ⟨_,rfl,rfl,more q1 (fun h=>absurd h (by omega))⟩) ⟨rfl,fun j _ h=>by omega⟩
 have he:aI gk (xs,(0:Int),())=some e:=he;unfold gS at h1;rw [he] at h1;rcases hq with ⟨rfl,g⟩ | ⟨rfl,g⟩
 ·injection h1 with h1;injection h1 with h1 _;exact ⟨fun _=>g,fun _=>h1.symm⟩
 ·injection h1 with h1;injection h1 with h1 _;subst h1;exact ⟨fun h=>(by cases h),fun h=>absurd h g⟩
theorem Tn {α:Type} (f:α→Nat) (c:Nat):(xs:List α)→(∀x∈xs,f x≤c)→wl f xs≤c*xs.length
 | [],_=>Nat.zero_le _
 |x::xs,h=>by
  rw [tf,List.length_cons,Nat.mul_succ];have:=Tn f c xs (fun y hy=>h y (List.mem_cons_of_mem _ hy));have:=h x List.mem_cons_self;omega
theorem L9 (xs:aZ) (h:fx xs xs.length):∀k (hk:k<xs.length),((k+1:Nat):Int)≤xs[k].1
 |0,hk=>by have:=(h 0 hk hk).1.1.1;omega
 |k+1,hk=>by
  have h1:=L9 xs h k (by omega);have h2:=(h (k+1) hk hk).2 (by omega);have h2:xs[k].1<xs[k+1].1:=h2;omega
theorem di (xs:aZ) (h:fx xs xs.length):xs.length≤60∧wl ec xs≤3600:=by
 have h1:xs.length≤60:=by
  by_cases h0:0<xs.length
  ·have:=L9 xs h (xs.length-1) (by omega);have:=(h (xs.length-1) (by omega) (by omega)).1.1.2;omega
  ·omega
 refine ⟨h1,Nat.le_trans (Tn ec 60 xs fun x hx => ?_) (by omega)⟩;obtain ⟨k,hk,rfl⟩:=List.mem_iff_getElem.1 hx;exact (h k hk hk).1.2.2.2
theorem GY (xs:List (ByteArray×Unit)) (h:la xs xs.length):wl KM xs≤60*xs.length:=by
 refine Tn KM 60 xs fun x hx => ?_
 obtain ⟨k,hk,rfl⟩:=List.mem_iff_getElem.1 hx;exact h k hk hk
structure Zd (c0 c1:Int) (c2:List (Int×Unit)) (c3:aZ) (c4:List (Int×Unit)) (c5:List (ByteArray×Unit)) (c6 c7 c8 c9:Int) (c15:List (Int×Unit)):Prop where
 ring:1≤c2.length∧c2.length≤5
 items:fx c3 c3.length
 texts:c5.length≤20∧c4.length=c5.length
 lev:yC c4 c4.length
 short:la c5 c5.length
 round:0≤c6∧c6≤1000000000
 seen:0≤c7∧c7≤60
 aru:∃n:Nat,iF c3=some (((n:Nat):Int),())∧kc c3=some (((n:Nat):Int),())∧Tm c3 n∧(0≤c8∧c8≤((n:Nat):Int))∧0≤c9∧c9≤((n:Nat):Int)
 anX:c15.length≤20
theorem VK {c0 c1 c2 c3 c4:Int} {xs:List (Int×Unit)} (h:db c0 c1 c2 c3 c4 xs=some (true,())):xs.length=0:=by
 unfold db at h
 by_cases h0:((List.length xs:Nat):Int)=0
 ·omega
 ·exfalso
  rw [ak h0] at h
  revert h
  cases decide (c0=(0:Int))<;>cases decide (c1=(0:Int))<;>cases decide (c2=(0:Int))<;>cases decide (c3=(0:Int))<;>cases decide (c4=(0:Int))<;>intro h<;>cases h
theorem mi {p q:Prop} [Decidable p] [Decidable q] (h:(decide p&&decide q)=true):p∧q:=by
 rw [Bool.and_eq_true,decide_eq_true_eq,decide_eq_true_eq] at h;exact h
theorem Ze (eH:Int) (eB:Int) (dL:List (Int×Unit)) (dH:aZ) (dx:List (Int×Unit)) (dM:List (ByteArray×Unit)) (eT:Int) (fq:Int) (ft:Int) (fu:Int) (cO:Int) (cP:Int) (cQ:Int) (cR:Int) (cS:Int) (cF:List (Int×Unit))
  (h0:(List.length dL+wl kY dL)+(List.length dH+wl ec dH)+(List.length dx+wl kY dx)+(List.length dM+wl KM dM)+(List.length cF+wl kY cF)≤1048576):∃b,fD eH eB dL dH dx dM eT fq ft fu cO cP cQ cR cS cF=some (b,())∧ik eH eB dL dH dx dM eT fq ft fu cO cP cQ cR cS cF=some (b,())∧
   (b=true→Zd eH eB dL dH dx dM eT fq ft fu cF):=by
 obtain ⟨b,k1,k2⟩:=GX eH eB dL dH dx dM eT fq ft fu cO cP cQ cR cS cF h0;refine ⟨b,k1,k2,fun hb => ?_⟩;subst hb;obtain ⟨b1,r1,_,r3⟩:=vN eB dL (by omega);obtain ⟨b2,c1,_⟩:=qb eH dL (by omega);obtain ⟨b3,i1,_,i3⟩:=L8 dH (by omega);obtain ⟨b4,t1,t2⟩:=DX dx dM (by omega) (by omega);obtain ⟨n,a1,a2,a3⟩:=E0 dH (by omega);obtain ⟨b6,z1,z2⟩:=Ak cO cP cQ cR cS cF;obtain ⟨b7,w1,_,w3⟩:=wX cO cP cQ cR cS cF (by omega);unfold fD at k1;simp only [r1,c1,i1,t1,a1,z1,w1,ni,Option.bind_some] at k1
 cases b1
 ·cases k1
 cases b2
 ·cases k1
 cases b3
 ·cases k1
 cases b4
 ·cases k1
 simp only [Bool.not_true,cond_false] at k1
 cases e5:(decide ((0:Int)≤eT)&&decide (eT≤1000000000))
 ·rw [e5] at k1;cases k1
 cases e6:(decide ((0:Int)≤fq)&&decide (fq≤60))
 ·rw [e5,e6] at k1;cases k1
 cases e8:(decide ((0:Int)≤ft)&&decide (ft≤((n:Nat):Int)))
 ·rw [e5,e6,e8] at k1;cases k1
 cases e9:(decide ((0:Int)≤fu)&&decide (fu≤((n:Nat):Int)))
 ·rw [e5,e6,e8,e9] at k1;cases k1
 rw [e5,e6,e8,e9] at k1;obtain ⟨t3,t4,t5,t6⟩:=t2.1 rfl;refine ⟨r3 rfl,i3.1 rfl,⟨t3,t4⟩,t5,t6,mi e5,mi e6,⟨n,a1,a2,a3,mi e8,mi e9⟩,?_⟩
 cases b6
 ·cases b7
  ·cases k1
  ·exact (w3 rfl).2.2.2.2.1
 ·have:=VK z2;omega
theorem Zd.small {c0 c1:Int} {c2:List (Int×Unit)} {c3:aZ} {c4:List (Int×Unit)} {c5:List (ByteArray×Unit)} {c6 c7 c8 c9:Int} {c15:List (Int×Unit)} (h:Zd c0 c1 c2 c3 c4 c5 c6 c7 c8 c9 c15) :
  (List.length c2+wl kY c2)+(List.length c3+wl ec c3)+(List.length c4+wl kY c4)+(List.length c5+wl KM c5)+(List.length c15+wl kY c15)≤5000:=by
 have h1:=di c3 h.items;have h2:=GY c5 h.short;have h3:=h.texts;have h4:=h.ring;have h5:=h.anX;rw [qh kY (fun _=>rfl),qh kY (fun _=>rfl),qh kY (fun _=>rfl)];omega
theorem xD (xs:aZ) (h:xs.length≤1048576):dt xs=some (xs,()):=by
 unfold dt;rw [aW (show (0+xs.length)*40≤lim by unfold lim;omega)];rfl
theorem Ns (xs:List (ByteArray×Unit)) (h:xs.length≤1048576):lI xs=some (xs,()):=by
 unfold lI;rw [aW (show (0+xs.length)*16≤lim by unfold lim;omega)];rfl
theorem oU (eH:Int) (eB:Int) (dL:List (Int×Unit)) (dH:aZ) (dx:List (Int×Unit)) (dM:List (ByteArray×Unit)) (eT:Int) (fq:Int) (ft:Int) (fu:Int) (cO:Int) (cP:Int) (cQ:Int) (cR:Int) (cS:Int) (cF:List (Int×Unit))
  (h0:(List.length dL+wl kY dL)+(List.length dH+wl ec dH)+(List.length dx+wl kY dx)+(List.length dM+wl KM dM)+(List.length cF+wl kY cF)≤1048576) :
  gT eH eB dL dH dx dM eT fq ft fu cO cP cQ cR cS cF=some (eH,eB,dL,dH,dx,dM,eT,fq,ft,fu,cO,cP,cQ,cR,cS,cF,())∧
  gg eH eB dL dH dx dM eT fq ft fu cO cP cQ cR cS cF=some (eH,eB,dL,dH,dx,dM,eT,fq,ft,fu,cO,cP,cQ,cR,cS,cF,()):=by
 obtain ⟨t1,t2⟩:=kZ cO cP cQ cR cS cF (by omega)
 constructor
 ·unfold gT;rw [aW (show (0+dL.length)*8≤lim by unfold lim;omega),aW (show (0+dH.length)*40≤lim by unfold lim;omega),aW (show (0+dx.length)*8≤lim by unfold lim;omega),aW (show (0+dM.length)*16≤lim by unfold lim;omega),t1];rfl
 ·unfold gg bN;rw [kJ dL (by omega),xD dH (by omega),kJ dx (by omega),Ns dM (by omega),t2];rfl
end Go.TM
set_option linter.unusedSimpArgs false
set_option linter.unusedVariables false
namespace Go.TM
open Go
abbrev cG:Type:=List (Int×Unit)
abbrev gN:Type:=Int×Int×Int×Int×Int×cG×Unit
abbrev ia:Type:=Int×Int×cG×aZ×cG×(List (ByteArray×Unit))×Int×Int×Int×Int×Int×Int×Int×Int×Int×cG×Unit
abbrev sf:Type:=Int×Int×cG×Int×Int×Int×ByteArray×cG×Unit
abbrev bQ:Type:=Int×Bool×Int×Int×cG×aZ×cG×(List (ByteArray×Unit))×Int×Int×Int×Int×Int×Int×Int×Int×Int×cG×Int×Int×Int×cG×(List eC)×(List sf)×Unit
def Nt (xs:cG) (n:Nat):Prop:=∀k (h:k<xs.length),k<n→(1≤xs[k].1∧xs[k].1≤5)∧∀h0:0<k,xs[k-1].1<xs[k].1
def oV (c:Int) (xs:cG):Prop:=(1≤c∧c≤9)∧(1≤xs.length∧xs.length≤5)∧Nt xs xs.length
theorem Zf (c:Int) (xs:cG) (h:xs.length≤1048576):∃b,eg c xs=some (b,())∧fU c xs=some (b,())∧(b=true↔oV c xs):=by
 obtain ⟨b,h1,h2,_⟩:=vN c xs h;refine ⟨b,h1,h2,?_⟩;obtain ⟨e,he,hq⟩:=dU (round:=gP) (x:=(c,xs,((0:Nat):Int),())) xs.length (fun k x=>x=(c,xs,((k:Nat):Int),())∧Nt xs k) (fun e=>(e=.inl ()∧Nt xs xs.length)∨(e=.inr (false,())∧¬Nt xs xs.length)) (by
   rintro x ⟨rfl,g⟩
   exact ⟨.inl (),by simp only [gP,oH,aJ,cond_false],.inl ⟨rfl,g⟩⟩) (by
   rintro k x hk ⟨rfl,g⟩
   simp only [gP,oH,aD hk,au,cond_true,aC,List.getElem?_eq_getElem hk,Option.bind_some,ni,aH (show k<4611686018427387904 by omega)];have more:(1≤xs[k].1∧xs[k].1≤5)→(∀h0:0<k,xs[k-1].1<xs[k].1)→Nt xs (k+1):=fun q1 q2 j hj N0=>by
    by_cases e:j<k
    ·exact g j hj e
    ·have:j=k:=by omega
     subst this;exact ⟨q1,q2⟩
   cases hb:(decide (1≤xs[k].1)&&decide (xs[k].1≤5))
   ·exact .inl ⟨.inr (false,()),rfl,.inr ⟨rfl,fun hn=>by
     have:=(hn k hk hk).1;rw [aq this.1,aq this.2] at hb
     cases hb⟩⟩
   ·have q1:=mi hb
    by_cases h0:0<k
    ·have hp:k-1<xs.length:=by omega
     rw [vM h0 (by omega)];simp only [aq (show (0:Int)<((k:Nat):Int) by omega),Bool.not_true,cond_false,cond_true,au,aC,List.getElem?_eq_getElem hp,Option.bind_some]
     by_cases hs:xs[k].1≤xs[k-1].1
     ·rw [aq hs];refine .inl ⟨.inr (false,()),rfl,.inr ⟨rfl,fun hn => ?_⟩⟩;have:=(hn k hk hk).2 h0;omega
     ·rw [ak hs];exact .inr ⟨_,rfl,rfl,more q1 (fun _=>by omega)⟩
    ·have:k=0:=by omega
     subst this;simp only [ak (show ¬(0:Int)<((0:Nat):Int) by omega),Bool.not_true,cond_false];exact .inr ⟨_,rfl,rfl,more q1 (fun h=>absurd h (by omega))⟩) ⟨rfl,fun j _ h=>by omega⟩
 have he:aI gP (c,xs,(0:Int),())=some e:=he;unfold eg at h1;simp only [ni,Option.bind_some,he] at h1;unfold oV
 cases a1:(decide (1≤c)&&decide (c≤9))
 ·rw [a1] at h1;injection h1 with h1;injection h1 with h1 _;subst h1;refine ⟨fun h=>(by cases h),fun h => ?_⟩;rw [aq h.1.1,aq h.1.2] at a1
  cases a1
 cases a2:(decide (1≤((List.length xs:Nat):Int))&&decide (((List.length xs:Nat):Int)≤5))
 ·rw [a1,a2] at h1;injection h1 with h1;injection h1 with h1 _;subst h1;refine ⟨fun h=>(by cases h),fun h => ?_⟩;rw [aq (show (1:Int)≤((List.length xs:Nat):Int) by omega),aq (show ((List.length xs:Nat):Int)≤5 by omega)] at a2
  cases a2
 rw [a1,a2] at h1;have a1:=mi a1;have a2:=mi a2;rcases hq with ⟨rfl,g⟩ | ⟨rfl,g⟩
 ·injection h1 with h1;injection h1 with h1 _;exact ⟨fun _=>⟨a1,by omega,g⟩,fun _=>h1.symm⟩
 ·injection h1 with h1;injection h1 with h1 _;subst h1;exact ⟨fun h=>(by cases h),fun h=>absurd h.2.2 g⟩
noncomputable def yD (c:Int) (xs:cG):Bool:=match eg c xs with | some x=>x.1 | none=>false
theorem qo (c:Int) (xs:cG) (h:xs.length≤1048576):eg c xs=some (yD c xs,())∧fU c xs=some (yD c xs,())∧(yD c xs=true↔oV c xs):=by
 obtain ⟨b,h1,h2,h3⟩:=Zf c xs h;have:yD c xs=b:=by unfold yD;rw [h1]
 rw [this];exact ⟨h1,h2,h3⟩
noncomputable def nL (xs:aZ):Bool:=match gS xs with | some x=>x.1 | none=>false
theorem qc (xs:aZ) (h:xs.length≤1048576):gS xs=some (nL xs,())∧jA xs=some (nL xs,())∧(nL xs=true↔fx xs xs.length):=by
 obtain ⟨b,h1,h2,h3⟩:=L8 xs h;have:nL xs=b:=by unfold nL;rw [h1]
 rw [this];exact ⟨h1,h2,h3⟩
noncomputable def AR (r:ez):Bool:=match kQ r.1 r.2.1 r.2.2.1 r.2.2.2.1 with | some x=>x.1 | none=>false
theorem Al (r:ez):kQ r.1 r.2.1 r.2.2.1 r.2.2.2.1=some (AR r,())∧mA r.1 r.2.1 r.2.2.1 r.2.2.2.1=some (AR r,())∧(AR r=true↔qV r):=by
 obtain ⟨b,h1,h2,h3⟩:=PJ r.1 r.2.1 r.2.2.1 r.2.2.2.1;have:AR r=b:=by unfold AR;rw [h1]
 rw [this];exact ⟨h1,h2,h3⟩
def DY (b:eC):Prop:=(1≤b.1∧b.1≤5)∧(1≤b.2.1∧b.2.1≤9)∧(0≤b.2.2.1∧b.2.2.1≤b.2.1-1)∧fx b.2.2.2.1 b.2.2.2.1.length∧(0<b.2.2.1∨b.2.2.2.1.length=0)
theorem sa {p q:Prop} [Decidable p] [Decidable q]:(decide p&&decide q)=true↔p∧q:=by
 rw [Bool.and_eq_true,decide_eq_true_eq,decide_eq_true_eq]
theorem Nu (b:eC) (h:b.2.2.2.1.length≤1048576):qU b=true↔DY b:=by
 obtain ⟨h1,_⟩:=sW b h;obtain ⟨i1,_,i3⟩:=qc b.2.2.2.1 h;unfold iN at h1;simp only [ni,Option.bind_some,i1] at h1;unfold DY;rw [←i3]
 cases a1:(decide (1≤b.1)&&decide (b.1≤5))
 ·rw [a1] at h1;injection h1 with h1;injection h1 with h1 _;rw [←h1];exact ⟨fun h=>(by cases h),fun h=>by rw [sa.2 h.1] at a1;cases a1⟩
 cases a2:(decide (1≤b.2.1)&&decide (b.2.1≤9))
 ·rw [a1,a2] at h1;injection h1 with h1;injection h1 with h1 _;rw [←h1];exact ⟨fun h=>(by cases h),fun h=>by rw [sa.2 h.2.1] at a2;cases a2⟩
 have c2:=mi a2;rw [fj (by omega) (by omega)] at h1
 cases a3:(decide (0≤b.2.2.1)&&decide (b.2.2.1≤b.2.1-1))
 ·rw [a1,a2,a3] at h1;injection h1 with h1;injection h1 with h1 _;rw [←h1];exact ⟨fun h=>(by cases h),fun h=>by rw [sa.2 h.2.2.1] at a3;cases a3⟩
 cases a4:nL b.2.2.2.1
 ·rw [a1,a2,a3,a4] at h1;injection h1 with h1;injection h1 with h1 _;rw [←h1];exact ⟨fun h=>(by cases h),fun h=>by cases h.2.2.2.1⟩
 rw [a1,a2,a3,a4] at h1
 by_cases a5:0<b.2.2.1
 ·rw [aq a5] at h1;injection h1 with h1;injection h1 with h1 _;rw [←h1];exact ⟨fun _=>⟨mi a1,c2,mi a3,rfl,.inl a5⟩,fun _=>rfl⟩
 ·rw [ak a5] at h1;injection h1 with h1;injection h1 with h1 _;rw [←h1];refine ⟨fun h=>⟨mi a1,c2,mi a3,rfl,.inr ?_⟩,fun h => ?_⟩
  ·have:=of_decide_eq_true h;omega
  ·exact decide_eq_true (by rcases h.2.2.2.2 with q | q<;>omega)
theorem VL (c0 c1 c2 c3 c4:Int) (xs:cG):∃b,fI c0 c1 c2 c3 c4 xs=some (b,())∧db c0 c1 c2 c3 c4 xs=some (b,())∧(b=true↔c0=0∧c1=0∧c2=0∧c3=0∧c4=0∧xs=[]):=by
 obtain ⟨b,h1,h2⟩:=Ak c0 c1 c2 c3 c4 xs;refine ⟨b,h1,h2,?_⟩;unfold db at h2;have hl:((List.length xs:Nat):Int)=0↔xs=[]:=by rw [←List.length_eq_zero_iff];omega
 by_cases e0:c0=0
 case neg=>simp [ak e0] at h2;subst h2;simp [e0]
 by_cases e1:c1=0
 case neg=>simp [aq e0,ak e1] at h2;subst h2;simp [e1]
 by_cases e2:c2=0
 case neg=>simp [aq e0,aq e1,ak e2] at h2;subst h2;simp [e2]
 by_cases e3:c3=0
 case neg=>simp [aq e0,aq e1,aq e2,ak e3] at h2;subst h2;simp [e3]
 by_cases e4:c4=0
 case neg=>simp [aq e0,aq e1,aq e2,aq e3,ak e4] at h2;subst h2;simp [e4]
 by_cases e5:((List.length xs:Nat):Int)=0
 ·rw [aq e0,aq e1,aq e2,aq e3,aq e4,aq e5] at h2;injection h2 with h2;injection h2 with h2 _;exact ⟨fun _=>⟨e0,e1,e2,e3,e4,hl.1 e5⟩,fun _=>h2.symm⟩
 ·rw [aq e0,aq e1,aq e2,aq e3,aq e4,ak e5] at h2;injection h2 with h2;injection h2 with h2 _;subst h2;exact ⟨fun h=>(by cases h),fun h=>absurd (hl.2 h.2.2.2.2.2) e5⟩
def Blank (t:gN):Prop:=t.1=0∧t.2.1=0∧t.2.2.1=0∧t.2.2.2.1=0∧t.2.2.2.2.1=0∧t.q.1=[]
noncomputable def sb (t:gN):Bool:=match fI t.1 t.2.1 t.2.2.1 t.2.2.2.1 t.2.2.2.2.1 t.q.1 with | some x=>x.1 | none=>false
theorem qd (t:gN):fI t.1 t.2.1 t.2.2.1 t.2.2.2.1 t.2.2.2.2.1 t.q.1=some (sb t,())∧db t.1 t.2.1 t.2.2.1 t.2.2.2.1 t.2.2.2.2.1 t.q.1=some (sb t,())∧(sb t=true↔Blank t):=by
 obtain ⟨b,h1,h2,h3⟩:=VL t.1 t.2.1 t.2.2.1 t.2.2.2.1 t.2.2.2.2.1 t.q.1;have:sb t=b:=by unfold sb;rw [h1]
 rw [this];exact ⟨h1,h2,h3⟩
def Gf (t:gN):Prop:=aiq t.1 t.2.1 t.2.2.1 t.2.2.2.1 t.2.2.2.2.1 t.q.1
noncomputable def KN (t:gN):Bool:=match fk t.1 t.2.1 t.2.2.1 t.2.2.2.1 t.2.2.2.2.1 t.q.1 with | some x=>x.1 | none=>false
theorem Gg (t:gN) (h:t.q.1.length≤1048576):fk t.1 t.2.1 t.2.2.1 t.2.2.2.1 t.2.2.2.2.1 t.q.1=some (KN t,())∧iR t.1 t.2.1 t.2.2.1 t.2.2.2.1 t.2.2.2.2.1 t.q.1=some (KN t,())∧(KN t=true↔Gf t):=by
 obtain ⟨b,h1,h2,h3⟩:=L6 t.1 t.2.1 t.2.2.1 t.2.2.2.1 t.2.2.2.2.1 t.q.1 h;have:KN t=b:=by unfold KN;rw [h1]
 rw [this];exact ⟨h1,h2,h3⟩
noncomputable def dJ (xs:aZ):Nat:=match iF xs with | some x=>x.1.toNat | none=>0
theorem Am (xs:aZ) (h:xs.length≤1048576):iF xs=some (((dJ xs:Nat):Int),())∧kc xs=some (((dJ xs:Nat):Int),())∧Tm xs (dJ xs):=by
 obtain ⟨n,h1,h2,h3⟩:=E0 xs h;have:dJ xs=n:=by unfold dJ;rw [h1];rfl
 rw [this];exact ⟨h1,h2,h3⟩
structure ra (m:ia):Prop where
 ring:oV m.2.1 m.2.2.1
 mem:(m.1,())∈m.2.2.1
 items:fx m.2.2.2.1 m.2.2.2.1.length
 texts:m.q.1.length≤20∧m.2.2.2.2.1.length=m.q.1.length
 lev:yC m.2.2.2.2.1 m.2.2.2.2.1.length
 short:la m.q.1 m.q.1.length
 round:0≤m.q.2.1∧m.q.2.1≤1000000000
 seen:0≤m.q.2.2.1∧m.q.2.2.1≤60
 line:0≤m.q.2.2.2.1∧m.q.2.2.2.1≤((dJ m.2.2.2.1:Nat):Int)
 heard:0≤m.q.2.2.2.2.1∧m.q.2.2.2.2.1≤((dJ m.2.2.2.1:Nat):Int)
 last:Blank (m.q.q.1,m.q.q.2.1,m.q.q.2.2.1,m.q.q.2.2.2.1,m.q.q.2.2.2.2.1,m.q.q.q.1,())∨Gf (m.q.q.1,m.q.q.2.1,m.q.q.2.2.1,m.q.q.2.2.2.1,m.q.q.2.2.2.2.1,m.q.q.q.1,())
def mP (m:ia):Nat:=(List.length m.2.2.1+wl kY m.2.2.1)+(List.length m.2.2.2.1+wl ec m.2.2.2.1)+(List.length m.2.2.2.2.1+wl kY m.2.2.2.2.1)+(List.length m.q.1+wl KM m.q.1)+(List.length m.q.q.q.1+wl kY m.q.q.q.1)
noncomputable def uN (m:ia):Bool:=match fD m.1 m.2.1 m.2.2.1 m.2.2.2.1 m.2.2.2.2.1 m.q.1 m.q.2.1 m.q.2.2.1 m.q.2.2.2.1 m.q.2.2.2.2.1 m.q.q.1 m.q.q.2.1 m.q.q.2.2.1 m.q.q.2.2.2.1 m.q.q.2.2.2.2.1 m.q.q.q.1 with | some x=>x.1 | none=>false
theorem uO (m:ia) (h0:mP m≤1048576):fD m.1 m.2.1 m.2.2.1 m.2.2.2.1 m.2.2.2.2.1 m.q.1 m.q.2.1 m.q.2.2.1 m.q.2.2.2.1 m.q.2.2.2.2.1 m.q.q.1 m.q.q.2.1 m.q.q.2.2.1 m.q.q.2.2.2.1 m.q.q.2.2.2.2.1 m.q.q.q.1=some (uN m,())∧ik m.1 m.2.1 m.2.2.1 m.2.2.2.1 m.2.2.2.2.1 m.q.1 m.q.2.1 m.q.2.2.1 m.q.2.2.2.1 m.q.2.2.2.2.1 m.q.q.1 m.q.q.2.1 m.q.q.2.2.1 m.q.q.2.2.2.1 m.q.q.2.2.2.2.1 m.q.q.q.1=some (uN m,())∧(uN m=true↔ra m):=by
 obtain ⟨b,k1,k2⟩:=GX m.1 m.2.1 m.2.2.1 m.2.2.2.1 m.2.2.2.2.1 m.q.1 m.q.2.1 m.q.2.2.1 m.q.2.2.2.1 m.q.2.2.2.2.1 m.q.q.1 m.q.q.2.1 m.q.q.2.2.1 m.q.q.2.2.2.1 m.q.q.2.2.2.2.1 m.q.q.q.1 h0;have hb:uN m=b:=by unfold uN;rw [k1]
 rw [hb];refine ⟨k1,k2,?_⟩;unfold mP at h0;obtain ⟨r1,_,r3⟩:=qo m.2.1 m.2.2.1 (by omega);have c1:=Ai m.2.2.1 m.1 (by omega);obtain ⟨i1,_,i3⟩:=qc m.2.2.2.1 (by omega);obtain ⟨b4,t1,t2⟩:=DX m.2.2.2.2.1 m.q.1 (by omega) (by omega);obtain ⟨a1,a2,a3⟩:=Am m.2.2.2.1 (by omega);have z1:fI m.q.q.1 m.q.q.2.1 m.q.q.2.2.1 m.q.q.2.2.2.1 m.q.q.2.2.2.2.1 m.q.q.q.1=some (sb (m.q.q.1,m.q.q.2.1,m.q.q.2.2.1,m.q.q.2.2.2.1,m.q.q.2.2.2.2.1,m.q.q.q.1,()),()):=(qd (m.q.q.1,m.q.q.2.1,m.q.q.2.2.1,m.q.q.2.2.2.1,m.q.q.2.2.2.2.1,m.q.q.q.1,())).1;have z3:=(qd (m.q.q.1,m.q.q.2.1,m.q.q.2.2.1,m.q.q.2.2.2.1,m.q.q.2.2.2.2.1,m.q.q.q.1,())).2.2;have w1:fk m.q.q.1 m.q.q.2.1 m.q.q.2.2.1 m.q.q.2.2.2.1 m.q.q.2.2.2.2.1 m.q.q.q.1=some (KN (m.q.q.1,m.q.q.2.1,m.q.q.2.2.1,m.q.q.2.2.2.1,m.q.q.2.2.2.2.1,m.q.q.q.1,()),()):=(Gg (m.q.q.1,m.q.q.2.1,m.q.q.2.2.1,m.q.q.2.2.2.1,m.q.q.2.2.2.2.1,m.q.q.q.1,()) (by show m.q.q.q.1.length≤_;omega)).1;have w3:=(Gg (m.q.q.1,m.q.q.2.1,m.q.q.2.2.1,m.q.q.2.2.2.1,m.q.q.2.2.2.2.1,m.q.q.q.1,()) (by show m.q.q.q.1.length≤_;omega)).2.2;unfold fD at k1;simp only [r1,c1,i1,t1,a1,z1,w1,ni,Option.bind_some] at k1
 cases e1:yD m.2.1 m.2.2.1
 ·rw [e1] at k1;injection k1 with k1;injection k1 with k1 _;subst k1;exact ⟨fun h=>(by cases h),fun h=>by rw [r3.2 h.ring] at e1;cases e1⟩
 by_cases e2:(m.1,())∈m.2.2.1
 case neg=>
  rw [e1,ak e2] at k1;injection k1 with k1;injection k1 with k1 _;subst k1;exact ⟨fun h=>(by cases h),fun h=>absurd h.mem e2⟩
 cases e3:nL m.2.2.2.1
 ·rw [e1,aq e2,e3] at k1;injection k1 with k1;injection k1 with k1 _;subst k1;exact ⟨fun h=>(by cases h),fun h=>by rw [i3.2 h.items] at e3;cases e3⟩
 cases b4
 ·rw [e1,aq e2,e3] at k1;injection k1 with k1;injection k1 with k1 _;subst k1;exact ⟨fun h=>(by cases h),fun h=>by have:=t2.2 ⟨h.texts.1,h.texts.2,h.lev,h.short⟩;cases this⟩
 rw [e1,aq e2,e3] at k1;simp only [Bool.not_true,cond_false] at k1
 cases e5:(decide ((0:Int)≤m.q.2.1)&&decide (m.q.2.1≤1000000000))
 ·rw [e5] at k1;injection k1 with k1;injection k1 with k1 _;subst k1;exact ⟨fun h=>(by cases h),fun h=>by rw [sa.2 h.round] at e5;cases e5⟩
 cases e6:(decide ((0:Int)≤m.q.2.2.1)&&decide (m.q.2.2.1≤60))
 ·rw [e5,e6] at k1;injection k1 with k1;injection k1 with k1 _;subst k1;exact ⟨fun h=>(by cases h),fun h=>by rw [sa.2 h.seen] at e6;cases e6⟩
 cases e8:(decide ((0:Int)≤m.q.2.2.2.1)&&decide (m.q.2.2.2.1≤((dJ m.2.2.2.1:Nat):Int)))
 ·rw [e5,e6,e8] at k1;injection k1 with k1;injection k1 with k1 _;subst k1;exact ⟨fun h=>(by cases h),fun h=>by rw [sa.2 h.line] at e8;cases e8⟩
 cases e9:(decide ((0:Int)≤m.q.2.2.2.2.1)&&decide (m.q.2.2.2.2.1≤((dJ m.2.2.2.1:Nat):Int)))
 ·rw [e5,e6,e8,e9] at k1;injection k1 with k1;injection k1 with k1 _;subst k1;exact ⟨fun h=>(by cases h),fun h=>by rw [sa.2 h.heard] at e9;cases e9⟩
 rw [e5,e6,e8,e9] at k1;obtain ⟨t3,t4,t5,t6⟩:=t2.1 rfl;have mk:(Blank (m.q.q.1,m.q.q.2.1,m.q.q.2.2.1,m.q.q.2.2.2.1,m.q.q.2.2.2.2.1,m.q.q.q.1,())∨Gf (m.q.q.1,m.q.q.2.1,m.q.q.2.2.1,m.q.q.2.2.2.1,m.q.q.2.2.2.2.1,m.q.q.q.1,()))→ra m:=fun hl=>⟨r3.1 e1,e2,i3.1 e3,⟨t3,t4⟩,t5,t6,mi e5,mi e6,mi e8,mi e9,hl⟩
 cases e10:sb (m.q.q.1,m.q.q.2.1,m.q.q.2.2.1,m.q.q.2.2.2.1,m.q.q.2.2.2.2.1,m.q.q.q.1,())
 ·rw [e10] at k1
  cases e11:KN (m.q.q.1,m.q.q.2.1,m.q.q.2.2.1,m.q.q.2.2.2.1,m.q.q.2.2.2.2.1,m.q.q.q.1,())
  ·rw [e11] at k1;injection k1 with k1;injection k1 with k1 _;subst k1;refine ⟨fun h=>(by cases h),fun h => ?_⟩;rcases h.last with q | q
   ·rw [z3.2 q] at e10;cases e10
   ·rw [w3.2 q] at e11;cases e11
  ·rw [e11] at k1;injection k1 with k1;injection k1 with k1 _;subst k1;exact ⟨fun _=>mk (.inr (w3.1 e11)),fun _=>rfl⟩
 ·rw [e10] at k1;injection k1 with k1;injection k1 with k1 _;subst k1;exact ⟨fun _=>mk (.inl (z3.1 e10)),fun _=>rfl⟩
theorem ra.small {m:ia} (h:ra m):mP m≤5000:=by
 have h1:=di _ h.items;have h2:=GY _ h.short;have h3:=h.texts;have h4:=h.ring.2.1;have h5:m.q.q.q.1.length≤20:=by
  rcases h.last with q | q
  ·rw [show m.q.q.q.1=[] from q.2.2.2.2.2];exact Nat.zero_le _
  ·exact q.q.1
 unfold mP;rw [qh kY (fun _=>rfl),qh kY (fun _=>rfl),qh kY (fun _=>rfl)];omega
end Go.TM
set_option linter.unusedSimpArgs false
set_option linter.unusedVariables false
namespace Go.TM
open Go
theorem JL (b x:Bool):(bif b then some (x,()) else some (false,()))=some ((b&&x),()):=by cases b<;>rfl
theorem PK (b x:Bool):(bif !b then some (false,()) else some (x,()))=some ((b&&x),()):=by cases b<;>rfl
theorem vP (c:Int) (xs:List (Int×Unit)):gb c xs=some ((decide (c=0)&&decide (((List.length xs:Nat):Int)=0)),())∧jS c xs=some ((decide (c=0)&&decide (((List.length xs:Nat):Int)=0)),()):=by
 unfold gb jS;simp only [JL];exact ⟨trivial,trivial⟩
theorem GZ (eH:Int) (eB:Int) (dL:List (Int×Unit)) (dH:aZ) (dx:List (Int×Unit)) (dM:List (ByteArray×Unit)) (eT fq ft fu cO cP cQ cR cS:Int) (cF:List (Int×Unit)):∃b,gR eH eB dL dH dx dM eT fq ft fu cO cP cQ cR cS cF=some (b,())∧iH eH eB dL dH dx dM eT fq ft fu cO cP cQ cR cS cF=some (b,())∧(b=true→eB=0):=by
 obtain ⟨b6,z1,z2⟩:=Ak cO cP cQ cR cS cF;obtain ⟨n1,n2⟩:=vP eB dL;unfold gR iH;simp only [z1,z2,n1,n2,Option.bind_some,JL,PK];refine ⟨_,rfl,?_,fun h => ?_⟩
 ·congr 2
  ac_rfl
 ·simp only [Bool.and_eq_true,decide_eq_true_eq] at h;exact h.2.1.1
theorem KO (bJ:Int) (cf:Bool) (cg:Int) (bS:Int) (bT:List (Int×Unit)) (aG:aZ) (bX:List (Int×Unit)) (bY:List (ByteArray×Unit)) (cm:Int) (cu:Int) (bl:Int) (bj:Int) (bm:Int) (bn:Int) (bo:Int) (bp:Int) (bq:Int) (bk:List (Int×Unit)) (bc:Int) (aY:Int) (aU:Int) (aS:List (Int×Unit)) (ba:List (Int×Int×Int×(List (Int×Int×Int×ByteArray×Unit))×Unit)) (bd:List (Int×Int×(List (Int×Unit))×Int×Int×Int×ByteArray×(List (Int×Unit))×Unit)) (h0:(List.length bT+wl kY bT)+(List.length aG+wl ec aG)+(List.length bX+wl kY bX)+(List.length bY+wl KM bY)+(List.length bk+wl kY bk)+(List.length aS+wl kY aS)+(List.length ba+wl fc ba)+(List.length bd+wl bD bd)≤1048576):∃o0,fJ bJ cf cg bS bT aG bX bY cm cu bl bj bm bn bo bp bq bk bc aY aU aS ba bd=some (o0,())∧du bJ cf cg bS bT aG bX bY cm cu bl bj bm bn bo bp bq bk bc aY aU aS ba bd=some (o0,()):=by
 have hm0:(List.length bT+wl kY bT)+(List.length aG+wl ec aG)+(List.length bX+wl kY bX)+(List.length bY+wl KM bY)+(List.length bk+wl kY bk)≤1048576:=by omega
 obtain ⟨nm,n1,n2,n3⟩:=GZ cg bS bT aG bX bY cm cu bl bj bm bn bo bp bq bk;obtain ⟨b,k1,k2,_⟩:=Ze cg bS bT aG bX bY cm cu bl bj bm bn bo bp bq bk hm0;obtain ⟨r1,r2⟩:=vP aU aS;obtain ⟨b8,q1,q2,_⟩:=vN aU aS (by omega);obtain ⟨b9,c1,c2⟩:=qb bJ aS (by omega);obtain ⟨e,f,g1,g2,g3⟩:∃e f,aI eZ (bJ,cf,cg,bS,bT,aG,bX,bY,cm,cu,bl,bj,bm,bn,bo,bp,bq,bk,bc,aY,aU,aS,ba,bd,(0:Int),())=some e∧aI gd (bJ,cf,cg,bS,bT,aG,bX,bY,cm,cu,bl,bj,bm,bn,bo,bp,bq,bk,bc,aY,aU,aS,ba,bd,ba,((List.length ba:Nat):Int),(0:Int),())=some f∧
   ((e=.inl ()∧f=.inl (bJ,cf,cg,bS,bT,aG,bX,bY,cm,cu,bl,bj,bm,bn,bo,bp,bq,bk,bc,aY,aU,aS,ba,bd,()))∨(e=.inr (false,())∧f=.inr (bJ,cf,cg,bS,bT,aG,bX,bY,cm,cu,bl,bj,bm,bn,bo,bp,bq,bk,bc,aY,aU,aS,ba,bd,false,()))):=by
  refine oB ba.length (fun k x y=>x=(bJ,cf,cg,bS,bT,aG,bX,bY,cm,cu,bl,bj,bm,bn,bo,bp,bq,bk,bc,aY,aU,aS,ba,bd,((k:Nat):Int),())∧y=(bJ,cf,cg,bS,bT,aG,bX,bY,cm,cu,bl,bj,bm,bn,bo,bp,bq,bk,bc,aY,aU,aS,ba,bd,ba,((List.length ba:Nat):Int),((k:Nat):Int),())) _ ?_ ⟨rfl,rfl⟩
  rintro k x y hk ⟨rfl,rfl⟩
  by_cases dB:k<ba.length
  ·have hw:=FK fc ba ba[k] (List.getElem_mem dB);have hl:(ba[k].2.2.2.1).length≤1048576:=by
    have:fc ba[k]=List.length ba[k].2.2.2.1+wl ec ba[k].2.2.2.1:=rfl;omega
   obtain ⟨x,v1,v2⟩:=GW ba[k].1 ba[k].2.1 ba[k].2.2.1 ba[k].2.2.2.1 hl;simp only [eZ,aA,lW,ax,gd,aA,ly,ax,aD dB,au,cond_true,aC,List.getElem?_eq_getElem dB,Option.bind_some,v1,v2,aH (show k<4611686018427387904 by omega)]
   cases x
   ·exact .inl ⟨_,_,rfl,rfl,.inr ⟨rfl,rfl⟩⟩
   ·by_cases hn:ba[k].2.1=aU
    ·rw [aq hn];exact .inr ⟨dB,_,_,rfl,rfl,rfl,rfl⟩
    ·rw [ak hn];exact .inl ⟨_,_,rfl,rfl,.inr ⟨rfl,rfl⟩⟩
  ·have:k=ba.length:=by omega
   subst this;exact .inl ⟨.inl (),.inl (bJ,cf,cg,bS,bT,aG,bX,bY,cm,cu,bl,bj,bm,bn,bo,bp,bq,bk,bc,aY,aU,aS,ba,bd,()),by simp only [eZ,aA,lW,ax,aJ,cond_false],by simp only [gd,aA,ly,ax,aJ,cond_false],.inl ⟨rfl,rfl⟩⟩
 unfold fJ du fZ;delta bf;simp only [ni,qI,pw,n1,n2,k1,k2,r1,r2,q1,q2,c1,c2,g1,g2,Option.bind_some]
 cases (decide (1≤bJ)&&decide (bJ≤5))
 ·exact ⟨_,rfl,rfl⟩
 cases hB:(decide (0≤bc)&&decide (bc≤9))
 ·exact ⟨_,rfl,rfl⟩
 have hB:=mi hB;simp only [Bool.not_true,cond_false]
 cases cf
 ·cases nm
  ·cases b
   ·by_cases o0:cg=bJ
    ·rw [aq o0];exact ⟨_,rfl,rfl⟩
    ·rw [ak o0];exact ⟨_,rfl,rfl⟩
   by_cases o0:cg=bJ
   case neg=>rw [ak o0];exact ⟨_,rfl,rfl⟩
   rw [aq o0]
   by_cases o1:aY=bS
   case neg=>rw [ak o1];exact ⟨_,rfl,rfl⟩
   rw [aq o1]
   by_cases o2:bc<aY
   ·rw [aq o2,ak (show ¬aY≤bc by omega)];exact ⟨_,rfl,rfl⟩
   rw [ak o2,aq (show aY≤bc by omega)]
   cases (decide (aU=0)&&decide (((List.length aS:Nat):Int)=0))
   ·cases b8
    ·exact ⟨_,rfl,rfl⟩
    cases b9
    ·exact ⟨_,rfl,rfl⟩
    cases (decide (IntKind.i64.wrap (aY+(1:Int))≤aU)&&decide (aU≤bc))
    ·exact ⟨_,rfl,rfl⟩
    rcases g3 with ⟨rfl,rfl⟩ | ⟨rfl,rfl⟩
    ·exact ⟨_,rfl,rfl⟩
    ·exact ⟨_,rfl,rfl⟩
   ·exact ⟨_,rfl,rfl⟩
  ·have h3:=n3 rfl
   by_cases o1:aY=bS
   case neg=>rw [ak o1];exact ⟨_,rfl,rfl⟩
   rw [aq o1]
   by_cases o2:bc<aY
   ·rw [aq o2,ak (show ¬aY≤bc by omega)];exact ⟨_,rfl,rfl⟩
   rw [ak o2,aq (show aY≤bc by omega)]
   cases (decide (aU=0)&&decide (((List.length aS:Nat):Int)=0))
   ·cases b8
    ·exact ⟨_,rfl,rfl⟩
    cases b9
    ·exact ⟨_,rfl,rfl⟩
    cases (decide (IntKind.i64.wrap (aY+(1:Int))≤aU)&&decide (aU≤bc))
    ·exact ⟨_,rfl,rfl⟩
    rcases g3 with ⟨rfl,rfl⟩ | ⟨rfl,rfl⟩
    ·exact ⟨_,rfl,rfl⟩
    ·exact ⟨_,rfl,rfl⟩
   ·exact ⟨_,rfl,rfl⟩
 ·cases nm
  ·exact ⟨_,rfl,rfl⟩
  have h3:=n3 rfl
  by_cases o3:aY=0
  case neg=>rw [ak o3];exact ⟨_,rfl,rfl⟩
  rw [aq o3,aq (show aY=bS by omega),aq (show aY≤bc by omega)]
  cases (decide (aU=0)&&decide (((List.length aS:Nat):Int)=0))
  ·exact ⟨_,rfl,rfl⟩
  by_cases o4:((List.length ba:Nat):Int)=0
  ·rw [aq o4,ak (show ¬(0:Int)<((List.length ba:Nat):Int) by omega)];exact ⟨_,rfl,rfl⟩
  ·rw [ak o4,aq (show (0:Int)<((List.length ba:Nat):Int) by omega)];exact ⟨_,rfl,rfl⟩
end Go.TM
set_option linter.unusedSimpArgs false
set_option linter.unusedVariables false
namespace Go.TM
open Go
abbrev az (d:bQ):ia:=(d.2.2.1,d.2.2.2.1,d.2.2.2.2.1,d.q.1,d.q.2.1,d.q.2.2.1,d.q.2.2.2.1,d.q.2.2.2.2.1,d.q.q.1,d.q.q.2.1,d.q.q.2.2.1,d.q.q.2.2.2.1,d.q.q.2.2.2.2.1,d.q.q.q.1,d.q.q.q.2.1,d.q.q.q.2.2.1,())
def Ma (m:ia):Prop:=m.1=0∧m.2.1=0∧m.2.2.1=[]∧m.2.2.2.1=[]∧m.2.2.2.2.1=[]∧m.q.1=[]∧m.q.2.1=0∧m.q.2.2.1=0∧m.q.2.2.2.1=0∧m.q.2.2.2.2.1=0∧Blank (m.q.q.1,m.q.q.2.1,m.q.q.2.2.1,m.q.q.2.2.2.1,m.q.q.2.2.2.2.1,m.q.q.q.1,())
noncomputable def Cc (m:ia):Bool:=match gR m.1 m.2.1 m.2.2.1 m.2.2.2.1 m.2.2.2.2.1 m.q.1 m.q.2.1 m.q.2.2.1 m.q.2.2.2.1 m.q.2.2.2.2.1 m.q.q.1 m.q.q.2.1 m.q.q.2.2.1 m.q.q.2.2.2.1 m.q.q.2.2.2.2.1 m.q.q.q.1 with | some x=>x.1 | none=>false
theorem abl {α:Type} (xs:List α):((List.length xs:Nat):Int)=0↔xs=[]:=by rw [←List.length_eq_zero_iff];omega
theorem PL (m:ia):gR m.1 m.2.1 m.2.2.1 m.2.2.2.1 m.2.2.2.2.1 m.q.1 m.q.2.1 m.q.2.2.1 m.q.2.2.2.1 m.q.2.2.2.2.1 m.q.q.1 m.q.q.2.1 m.q.q.2.2.1 m.q.q.2.2.2.1 m.q.q.2.2.2.2.1 m.q.q.q.1=some (Cc m,())∧iH m.1 m.2.1 m.2.2.1 m.2.2.2.1 m.2.2.2.2.1 m.q.1 m.q.2.1 m.q.2.2.1 m.q.2.2.2.1 m.q.2.2.2.2.1 m.q.q.1 m.q.q.2.1 m.q.q.2.2.1 m.q.q.2.2.2.1 m.q.q.2.2.2.2.1 m.q.q.q.1=some (Cc m,())∧(Cc m=true↔Ma m):=by
 obtain ⟨b,k1,k2,_⟩:=GZ m.1 m.2.1 m.2.2.1 m.2.2.2.1 m.2.2.2.2.1 m.q.1 m.q.2.1 m.q.2.2.1 m.q.2.2.2.1 m.q.2.2.2.2.1 m.q.q.1 m.q.q.2.1 m.q.q.2.2.1 m.q.q.2.2.2.1 m.q.q.2.2.2.2.1 m.q.q.q.1;have hb:Cc m=b:=by unfold Cc;rw [k1]
 rw [hb];refine ⟨k1,k2,?_⟩;have z1:db m.q.q.1 m.q.q.2.1 m.q.q.2.2.1 m.q.q.2.2.2.1 m.q.q.2.2.2.2.1 m.q.q.q.1=some (sb (m.q.q.1,m.q.q.2.1,m.q.q.2.2.1,m.q.q.2.2.2.1,m.q.q.2.2.2.2.1,m.q.q.q.1,()),()):=(qd (m.q.q.1,m.q.q.2.1,m.q.q.2.2.1,m.q.q.2.2.2.1,m.q.q.2.2.2.2.1,m.q.q.q.1,())).2.1;have z2:fI m.q.q.1 m.q.q.2.1 m.q.q.2.2.1 m.q.q.2.2.2.1 m.q.q.2.2.2.2.1 m.q.q.q.1=some (sb (m.q.q.1,m.q.q.2.1,m.q.q.2.2.1,m.q.q.2.2.2.1,m.q.q.2.2.2.2.1,m.q.q.q.1,()),()):=(qd (m.q.q.1,m.q.q.2.1,m.q.q.2.2.1,m.q.q.2.2.2.1,m.q.q.2.2.2.2.1,m.q.q.q.1,())).1;have z3:=(qd (m.q.q.1,m.q.q.2.1,m.q.q.2.2.1,m.q.q.2.2.2.1,m.q.q.2.2.2.2.1,m.q.q.q.1,())).2.2;obtain ⟨n1,n2⟩:=vP m.2.1 m.2.2.1;unfold gR at k1;simp only [z2,n1,Option.bind_some,JL,PK] at k1;injection k1 with k1;injection k1 with k1 _;rw [←k1];unfold Ma;simp only [Bool.and_eq_true,decide_eq_true_eq,abl,z3]
 constructor
 ·rintro ⟨a1,⟨a2,a3⟩,a4,a5,a6,a7,a8,a9,a10,a11⟩
  exact ⟨a1,a2,a3,a4,a5,a6,a7,a8,a9,a10,a11⟩
 ·rintro ⟨a1,a2,a3,a4,a5,a6,a7,a8,a9,a10,a11⟩
  exact ⟨a1,⟨a2,a3⟩,a4,a5,a6,a7,a8,a9,a10,a11⟩
structure vu (d:bQ):Prop where
 id:1≤d.1∧d.1≤5
 yE:0≤d.q.q.q.2.2.2.1∧d.q.q.q.2.2.2.1≤9
 dead:d.2.1=true→Ma (az d)∧d.q.q.q.2.2.2.2.1=0∧d.q.q.q.q.1=0∧d.q.q.q.q.2.1=[]∧d.q.q.q.q.2.2.1=[]
 uP:Ma (az d)∨(ra (az d)∧d.2.2.1=d.1)
 old:d.q.q.q.2.2.2.2.1=d.2.2.2.1∧d.q.q.q.2.2.2.2.1≤d.q.q.q.2.2.2.1
 nX:(d.q.q.q.q.1=0∧d.q.q.q.q.2.1=[]∧d.q.q.q.q.2.2.1=[])∨(oV d.q.q.q.q.1 d.q.q.q.q.2.1∧(d.1,())∈d.q.q.q.q.2.1∧(d.q.q.q.2.2.2.2.1+1≤d.q.q.q.q.1∧d.q.q.q.q.1≤d.q.q.q.2.2.2.1)∧∀b∈d.q.q.q.q.2.2.1,DY b∧b.2.1=d.q.q.q.q.1)
def nj (d:bQ):Nat:=(List.length d.2.2.2.2.1+wl kY d.2.2.2.2.1)+(List.length d.q.1+wl ec d.q.1)+(List.length d.q.2.1+wl kY d.q.2.1)+(List.length d.q.2.2.1+wl KM d.q.2.2.1)+(List.length d.q.q.q.2.2.1+wl kY d.q.q.q.2.2.1)+(List.length d.q.q.q.q.2.1+wl kY d.q.q.q.q.2.1)+(List.length d.q.q.q.q.2.2.1+wl fc d.q.q.q.q.2.2.1)+(List.length d.q.q.q.q.2.2.2.1+wl bD d.q.q.q.q.2.2.2.1)
noncomputable def kj (d:bQ):Bool:=match fJ d.1 d.2.1 d.2.2.1 d.2.2.2.1 d.2.2.2.2.1 d.q.1 d.q.2.1 d.q.2.2.1 d.q.2.2.2.1 d.q.2.2.2.2.1 d.q.q.1 d.q.q.2.1 d.q.q.2.2.1 d.q.q.2.2.2.1 d.q.q.2.2.2.2.1 d.q.q.q.1 d.q.q.q.2.1 d.q.q.q.2.2.1 d.q.q.q.2.2.2.1 d.q.q.q.2.2.2.2.1 d.q.q.q.q.1 d.q.q.q.q.2.1 d.q.q.q.q.2.2.1 d.q.q.q.q.2.2.2.1 with | some x=>x.1 | none=>false
theorem vu.av0 {d:bQ} (h:vu d):0≤d.q.q.q.2.2.2.2.1:=by
 rcases h.uP with q | ⟨q,_⟩
 ·have h1:d.2.2.2.1=0:=q.2.1;have h2:=h.old.1;omega
 ·have h1:1≤d.2.2.2.1:=q.ring.1.1;have h2:=h.old.1;omega
theorem Zg (d:bQ) (h:nj d≤1048576):∃e,aI eZ (d.1,d.2.1,d.2.2.1,d.2.2.2.1,d.2.2.2.2.1,d.q.1,d.q.2.1,d.q.2.2.1,d.q.2.2.2.1,d.q.2.2.2.2.1,d.q.q.1,d.q.q.2.1,d.q.q.2.2.1,d.q.q.2.2.2.1,d.q.q.2.2.2.2.1,d.q.q.q.1,d.q.q.q.2.1,d.q.q.q.2.2.1,d.q.q.q.2.2.2.1,d.q.q.q.2.2.2.2.1,d.q.q.q.q.1,d.q.q.q.q.2.1,d.q.q.q.q.2.2.1,d.q.q.q.q.2.2.2.1,(0:Int),())=some e∧((e=.inl ()∧∀b∈d.q.q.q.q.2.2.1,DY b∧b.2.1=d.q.q.q.q.1)∨(e=.inr (false,())∧¬∀b∈d.q.q.q.q.2.2.1,DY b∧b.2.1=d.q.q.q.q.1)):=by
 unfold nj at h;obtain ⟨e,he,hq⟩:=dU (round:=eZ) (x:=(d.1,d.2.1,d.2.2.1,d.2.2.2.1,d.2.2.2.2.1,d.q.1,d.q.2.1,d.q.2.2.1,d.q.2.2.2.1,d.q.2.2.2.2.1,d.q.q.1,d.q.q.2.1,d.q.q.2.2.1,d.q.q.2.2.2.1,d.q.q.2.2.2.2.1,d.q.q.q.1,d.q.q.q.2.1,d.q.q.q.2.2.1,d.q.q.q.2.2.2.1,d.q.q.q.2.2.2.2.1,d.q.q.q.q.1,d.q.q.q.q.2.1,d.q.q.q.q.2.2.1,d.q.q.q.q.2.2.2.1,((0:Nat):Int),())) (d.q.q.q.q.2.2.1).length (fun k x=>x=(d.1,d.2.1,d.2.2.1,d.2.2.2.1,d.2.2.2.2.1,d.q.1,d.q.2.1,d.q.2.2.1,d.q.2.2.2.1,d.q.2.2.2.2.1,d.q.q.1,d.q.q.2.1,d.q.q.2.2.1,d.q.q.2.2.2.1,d.q.q.2.2.2.2.1,d.q.q.q.1,d.q.q.q.2.1,d.q.q.q.2.2.1,d.q.q.q.2.2.2.1,d.q.q.q.2.2.2.2.1,d.q.q.q.q.1,d.q.q.q.q.2.1,d.q.q.q.q.2.2.1,d.q.q.q.q.2.2.2.1,((k:Nat):Int),())∧∀j (hj:j<(d.q.q.q.q.2.2.1).length),j<k→DY (d.q.q.q.q.2.2.1)[j]∧(d.q.q.q.q.2.2.1)[j].2.1=d.q.q.q.q.1)
  (fun e=>(e=.inl ()∧∀b∈d.q.q.q.q.2.2.1,DY b∧b.2.1=d.q.q.q.q.1)∨(e=.inr (false,())∧¬∀b∈d.q.q.q.q.2.2.1,DY b∧b.2.1=d.q.q.q.q.1)) (by
   rintro x ⟨rfl,g⟩
   refine ⟨.inl (),by simp only [eZ,aA,lW,ax,aJ,cond_false],.inl ⟨rfl,fun b hb => ?_⟩⟩;obtain ⟨k,hk,rfl⟩:=List.mem_iff_getElem.1 hb;exact g k hk hk) (by
   rintro k x hk ⟨rfl,g⟩
   have hl:=E1 d.q.q.q.q.2.2.1 hk (by omega);have hb:=(sW (d.q.q.q.q.2.2.1)[k] hl).1;have hi:=Nu (d.q.q.q.q.2.2.1)[k] hl;simp only [eZ,aA,lW,ax,aD hk,au,cond_true,aC,List.getElem?_eq_getElem hk,Option.bind_some,hb,aH (show k<4611686018427387904 by omega)]
   cases hv:qU (d.q.q.q.q.2.2.1)[k]
   ·exact .inl ⟨.inr (false,()),rfl,.inr ⟨rfl,fun hn=>by rw [hi.2 (hn _ (List.getElem_mem hk)).1] at hv;cases hv⟩⟩
   ·by_cases hn:(d.q.q.q.q.2.2.1)[k].2.1=d.q.q.q.q.1
    ·rw [aq hn];refine .inr ⟨_,rfl,rfl,fun j hj N0 => ?_⟩
     by_cases e:j<k
     ·exact g j hj e
     ·have:j=k:=by omega
      subst this;exact ⟨hi.1 hv,hn⟩
    ·rw [ak hn];exact .inl ⟨.inr (false,()),rfl,.inr ⟨rfl,fun hq=>hn (hq _ (List.getElem_mem hk)).2⟩⟩) ⟨rfl,fun j _ h=>by omega⟩
 exact ⟨e,he,hq⟩
theorem some_inj {a b:Bool} (h:some (a,())=some (b,())):a=b:=by
 injection h with h;injection h with h _
theorem pR (d:bQ) (h:nj d≤1048576):fJ d.1 d.2.1 d.2.2.1 d.2.2.2.1 d.2.2.2.2.1 d.q.1 d.q.2.1 d.q.2.2.1 d.q.2.2.2.1 d.q.2.2.2.2.1 d.q.q.1 d.q.q.2.1 d.q.q.2.2.1 d.q.q.2.2.2.1 d.q.q.2.2.2.2.1 d.q.q.q.1 d.q.q.q.2.1 d.q.q.q.2.2.1 d.q.q.q.2.2.2.1 d.q.q.q.2.2.2.2.1 d.q.q.q.q.1 d.q.q.q.q.2.1 d.q.q.q.q.2.2.1 d.q.q.q.q.2.2.2.1=some (kj d,())∧du d.1 d.2.1 d.2.2.1 d.2.2.2.1 d.2.2.2.2.1 d.q.1 d.q.2.1 d.q.2.2.1 d.q.2.2.2.1 d.q.2.2.2.2.1 d.q.q.1 d.q.q.2.1 d.q.q.2.2.1 d.q.q.2.2.2.1 d.q.q.2.2.2.2.1 d.q.q.q.1 d.q.q.q.2.1 d.q.q.q.2.2.1 d.q.q.q.2.2.2.1 d.q.q.q.2.2.2.2.1 d.q.q.q.q.1 d.q.q.q.q.2.1 d.q.q.q.q.2.2.1 d.q.q.q.q.2.2.2.1=some (kj d,())∧(kj d=true↔vu d):=by
 obtain ⟨b,k1,k2⟩:=KO d.1 d.2.1 d.2.2.1 d.2.2.2.1 d.2.2.2.2.1 d.q.1 d.q.2.1 d.q.2.2.1 d.q.2.2.2.1 d.q.2.2.2.2.1 d.q.q.1 d.q.q.2.1 d.q.q.2.2.1 d.q.q.2.2.2.1 d.q.q.2.2.2.2.1 d.q.q.q.1 d.q.q.q.2.1 d.q.q.q.2.2.1 d.q.q.q.2.2.2.1 d.q.q.q.2.2.2.2.1 d.q.q.q.q.1 d.q.q.q.q.2.1 d.q.q.q.q.2.2.1 d.q.q.q.q.2.2.2.1 h;have hb:kj d=b:=by unfold kj;rw [k1]
 rw [hb];refine ⟨k1,k2,?_⟩;have h0:=h;unfold nj at h0;have n1:gR d.2.2.1 d.2.2.2.1 d.2.2.2.2.1 d.q.1 d.q.2.1 d.q.2.2.1 d.q.2.2.2.1 d.q.2.2.2.2.1 d.q.q.1 d.q.q.2.1 d.q.q.2.2.1 d.q.q.2.2.2.1 d.q.q.2.2.2.2.1 d.q.q.q.1 d.q.q.q.2.1 d.q.q.q.2.2.1=some (Cc (az d),()):=(PL (az d)).1;have n3:=(PL (az d)).2.2;have hw:mP (az d)≤1048576:=by
  show (List.length d.2.2.2.2.1+wl kY d.2.2.2.2.1)+(List.length d.q.1+wl ec d.q.1)+(List.length d.q.2.1+wl kY d.q.2.1)+(List.length d.q.2.2.1+wl KM d.q.2.2.1)+(List.length d.q.q.q.2.2.1+wl kY d.q.q.q.2.2.1)≤1048576;omega
 have m1:fD d.2.2.1 d.2.2.2.1 d.2.2.2.2.1 d.q.1 d.q.2.1 d.q.2.2.1 d.q.2.2.2.1 d.q.2.2.2.2.1 d.q.q.1 d.q.q.2.1 d.q.q.2.2.1 d.q.q.2.2.2.1 d.q.q.2.2.2.2.1 d.q.q.q.1 d.q.q.q.2.1 d.q.q.q.2.2.1=some (uN (az d),()):=(uO (az d) hw).1;have m3:=(uO (az d) hw).2.2;obtain ⟨r1,_⟩:=vP d.q.q.q.q.1 d.q.q.q.q.2.1;obtain ⟨q1,_,q3⟩:=qo d.q.q.q.q.1 d.q.q.q.q.2.1 (by omega);have c1:=Ai d.q.q.q.q.2.1 d.1 (by omega);obtain ⟨e,g1,g2⟩:=Zg d h;have hnr:(decide (d.q.q.q.q.1=0)&&decide (((List.length d.q.q.q.q.2.1:Nat):Int)=0))=true↔(d.q.q.q.q.1=0∧d.q.q.q.q.2.1=[]):=by rw [sa,abl]
 unfold fJ at k1;simp only [ni,n1,m1,r1,q1,c1,g1,Option.bind_some] at k1
 cases e1:(decide (1≤d.1)&&decide (d.1≤5))
 ·rw [e1] at k1;have:=some_inj k1;subst this;exact ⟨fun h=>(by cases h),fun h=>by rw [sa.2 h.id] at e1;cases e1⟩
 have a1:=mi e1
 cases e2:(decide (0≤d.q.q.q.2.2.2.1)&&decide (d.q.q.q.2.2.2.1≤9))
 ·rw [e1,e2] at k1;have:=some_inj k1;subst this;exact ⟨fun h=>(by cases h),fun h=>by rw [sa.2 h.yE] at e2;cases e2⟩
 have a2:=mi e2;rw [e1,e2] at k1;simp only [Bool.not_true,cond_false] at k1
 cases e3:d.2.1
 ·-- it axD
  rw [e3] at k1;have tail:(uN (az d)=true→d.2.2.1=d.1→False)∨True:=.inr trivial;have rest:(Ma (az d)∨(ra (az d)∧d.2.2.1=d.1))→(0≤d.2.2.2.1∧d.2.2.2.1≤9)→(bif !decide (d.q.q.q.2.2.2.2.1=d.2.2.2.1) then some (false,()) else bif decide (d.q.q.q.2.2.2.1<d.q.q.q.2.2.2.2.1) then some (false,()) else
    bif (decide (d.q.q.q.q.1=0)&&decide (((List.length d.q.q.q.q.2.1:Nat):Int)=0)) then some (decide (((List.length d.q.q.q.q.2.2.1:Nat):Int)=0),()) else
    bif !yD d.q.q.q.q.1 d.q.q.q.q.2.1 then some (false,()) else bif !decide ((d.1,())∈d.q.q.q.q.2.1) then some (false,()) else
    bif !(decide (IntKind.i64.wrap (d.q.q.q.2.2.2.2.1+(1:Int))≤d.q.q.q.q.1)&&decide (d.q.q.q.q.1≤d.q.q.q.2.2.2.1)) then some (false,()) else bU (some e) (fun _=>some (true,())) (fun y=>some (y.1,())))=some (b,())→(b=true↔vu d):=by
   intro hm hr k
   by_cases o1:d.q.q.q.2.2.2.2.1=d.2.2.2.1
   case neg=>
    rw [ak o1] at k;have:=some_inj k;subst this;exact ⟨fun h=>(by cases h),fun h=>absurd h.old.1 o1⟩
   by_cases o2:d.q.q.q.2.2.2.1<d.q.q.q.2.2.2.2.1
   ·rw [aq o1,aq o2] at k;have:=some_inj k;subst this;exact ⟨fun h=>(by cases h),fun h=>by have:=h.old.2;omega⟩
   rw [aq o1,ak o2,fj (by omega) (by omega)] at k;have mk:((d.q.q.q.q.1=0∧d.q.q.q.q.2.1=[]∧d.q.q.q.q.2.2.1=[])∨(oV d.q.q.q.q.1 d.q.q.q.q.2.1∧(d.1,())∈d.q.q.q.q.2.1∧(d.q.q.q.2.2.2.2.1+1≤d.q.q.q.q.1∧d.q.q.q.q.1≤d.q.q.q.2.2.2.1)∧∀b∈d.q.q.q.q.2.2.1,DY b∧b.2.1=d.q.q.q.q.1))→vu d:=fun hj=>
    ⟨a1,a2,fun hd=>(by rw [e3] at hd;cases hd),hm,⟨o1,by omega⟩,hj⟩
   cases e4:(decide (d.q.q.q.q.1=0)&&decide (((List.length d.q.q.q.q.2.1:Nat):Int)=0))
   ·have Z2:¬(d.q.q.q.q.1=0∧d.q.q.q.q.2.1=[]∧d.q.q.q.q.2.2.1=[]):=fun hz=>by rw [hnr.2 ⟨hz.1,hz.2.1⟩] at e4;cases e4
    rw [e4] at k
    cases e5:yD d.q.q.q.q.1 d.q.q.q.q.2.1
    ·rw [e5] at k;have:=some_inj k;subst this;exact ⟨fun h=>(by cases h),fun h=>by
      rcases h.nX with q | q
      ·exact absurd q Z2
      ·rw [q3.2 q.1] at e5;cases e5⟩
    by_cases e6:(d.1,())∈d.q.q.q.q.2.1
    case neg=>
     rw [e5,ak e6] at k;have:=some_inj k;subst this;exact ⟨fun h=>(by cases h),fun h=>by
      rcases h.nX with q | q
      ·exact absurd q Z2
      ·exact absurd q.2.1 e6⟩
    cases e7:(decide (d.q.q.q.2.2.2.2.1+1≤d.q.q.q.q.1)&&decide (d.q.q.q.q.1≤d.q.q.q.2.2.2.1))
    ·rw [e5,aq e6,e7] at k;have:=some_inj k;subst this;exact ⟨fun h=>(by cases h),fun h=>by
      rcases h.nX with q | q
      ·exact absurd q Z2
      ·rw [sa.2 q.2.2.1] at e7;cases e7⟩
    rw [e5,aq e6,e7] at k;rcases g2 with ⟨rfl,g⟩ | ⟨rfl,g⟩
    ·have:=some_inj k;subst this;exact ⟨fun _=>mk (.inr ⟨q3.1 e5,e6,mi e7,g⟩),fun _=>rfl⟩
    ·have:=some_inj k;subst this;exact ⟨fun h=>(by cases h),fun h=>by
      rcases h.nX with q | q
      ·exact absurd q Z2
      ·exact absurd q.2.2.2 g⟩
   ·have hn:=hnr.1 e4;rw [e4] at k;have:=some_inj k;subst this;rw [decide_eq_true_eq,abl];refine ⟨fun h=>mk (.inl ⟨hn.1,hn.2,h⟩),fun h => ?_⟩;rcases h.nX with q | q
    ·exact q.2.2
    ·have:=q.1.1.1;omega
  cases e4:Cc (az d)
  ·rw [e4] at k1;simp only [Bool.not_false,cond_true] at k1;have nn:¬Ma (az d):=fun hz=>by rw [n3.2 hz] at e4;cases e4
   cases e5:uN (az d)
   ·rw [e5] at k1;have:=some_inj k1;subst this;exact ⟨fun h=>(by cases h),fun h=>by
     rcases h.uP with q | q
     ·exact absurd q nn
     ·rw [m3.2 q.1] at e5;cases e5⟩
   by_cases e6:d.2.2.1=d.1
   case neg=>
    rw [e5,ak e6] at k1;have:=some_inj k1;subst this;exact ⟨fun h=>(by cases h),fun h=>by
     rcases h.uP with q | q
     ·exact absurd q nn
     ·exact absurd q.2 e6⟩
   rw [e5,aq e6] at k1;have hq:=m3.1 e5;have h3:1≤d.2.2.2.1∧d.2.2.2.1≤9:=hq.ring.1;exact rest (.inr ⟨hq,e6⟩) ⟨by omega,h3.2⟩ k1
  ·rw [e4] at k1;have hz:=n3.1 e4;have h3:d.2.2.2.1=0:=hz.2.1;exact rest (.inl hz) ⟨by omega,by omega⟩ k1
 ·-- it is dead
  rw [e3] at k1;simp only [cond_true] at k1
  cases e4:Cc (az d)
  ·rw [e4] at k1;have:=some_inj k1;subst this;exact ⟨fun h=>(by cases h),fun h=>by rw [n3.2 (h.dead e3).1] at e4;cases e4⟩
  have hz:=n3.1 e4
  by_cases e5:d.q.q.q.2.2.2.2.1=0
  case neg=>
   rw [e4,ak e5] at k1;have:=some_inj k1;subst this;exact ⟨fun h=>(by cases h),fun h=>absurd (h.dead e3).2.1 e5⟩
  cases e6:(decide (d.q.q.q.q.1=0)&&decide (((List.length d.q.q.q.q.2.1:Nat):Int)=0))
  ·rw [e4,aq e5,e6] at k1;have:=some_inj k1;subst this;exact ⟨fun h=>(by cases h),fun h=>by rw [hnr.2 ⟨(h.dead e3).2.2.1,(h.dead e3).2.2.2.1⟩] at e6;cases e6⟩
  have hn:=hnr.1 e6;rw [e4,aq e5,e6] at k1;have:=some_inj k1;subst this;rw [decide_eq_true_eq,abl];have h3:d.2.2.2.1=0:=hz.2.1;exact ⟨fun h=>⟨a1,a2,fun _=>⟨hz,e5,hn.1,hn.2,h⟩,.inl hz,⟨by omega,by omega⟩,.inl ⟨hn.1,hn.2,h⟩⟩,fun h=>(h.dead e3).2.2.2.2⟩
end Go.TM
set_option linter.unusedSimpArgs false
set_option linter.unusedVariables false
namespace Go.TM
open Go
def oc:aZ→ez→aZ
 | [],m=>[m]
 |r::xs,m=>if r.1<m.1 then r::oc xs m else if r.1=m.1 then r::xs else m::r::xs
def VM (xs:aZ):Prop:=xs.Pairwise fun a b=>a.1<b.1
def pS (xs:aZ) (m:ez):Nat:=(xs.takeWhile fun r=>decide (r.1<m.1)).length
theorem abm (xs:aZ) (m:ez):pS xs m≤xs.length:=(List.takeWhile_sublist _).length_le
theorem Gh (r:ez) (xs:aZ) (m:ez):pS (r::xs) m=if r.1<m.1 then pS xs m+1 else 0:=by
 unfold pS;rw [List.takeWhile_cons]
 by_cases h:r.1<m.1
 ·simp [h]
 ·simp [h]
theorem PM (m:ez):(xs:aZ)→oc xs m=if h:pS xs m<xs.length then (if xs[pS xs m].1=m.1 then xs else xs.take (pS xs m)++([m]++xs.drop (pS xs m))) else xs.take (pS xs m)++([m]++xs.drop (pS xs m))
 | []=>rfl
 |r::xs=>by
  have ih:=PM m xs;unfold oc
  by_cases h:r.1<m.1
  ·rw [if_pos h,ih];have hp:pS (r::xs) m=pS xs m+1:=by rw [Gh,if_pos h]
   by_cases h2:pS xs m<xs.length
   ·have h3:pS (r::xs) m<(r::xs).length:=by rw [hp,List.length_cons];omega
    rw [dif_pos h2,dif_pos h3];have e:(r::xs)[pS (r::xs) m]=xs[pS xs m]:=by simp [hp]
    rw [e]
    by_cases h4:xs[pS xs m].1=m.1
    ·rw [if_pos h4,if_pos h4]
    ·rw [if_neg h4,if_neg h4,hp];rfl
   ·have h3:¬pS (r::xs) m<(r::xs).length:=by rw [hp,List.length_cons];omega
    rw [dif_neg h2,dif_neg h3,hp];rfl
  ·rw [if_neg h];have hp:pS (r::xs) m=0:=by rw [Gh,if_neg h]
   have h3:pS (r::xs) m<(r::xs).length:=by rw [hp,List.length_cons];omega
   rw [dif_pos h3];have e:(r::xs)[pS (r::xs) m]=r:=by simp [hp]
   rw [e,hp];rfl
theorem Zh {xs:aZ} (h:fx xs xs.length):VM xs:=by
 have key:∀(d i:Nat) (hi:i+d+1<xs.length),xs[i].1<xs[i+d+1].1:=by
  intro d
  induction d with
  |zero=>intro i hi;exact (h (i+1) hi hi).2 (by omega)
  |succ d ih=>
   intro i hi;have h1:=ih i (by omega);have h2:=(h (i+(d+1)+1) hi hi).2 (by omega);have e:i+(d+1)+1-1=i+d+1:=by omega
   simp only [e] at h2;omega
 unfold VM;rw [List.pairwise_iff_getElem];intro i j hi hj Z1;have:=key (j-i-1) i (by omega);simpa [show i+(j-i-1)+1=j by omega] using this
theorem Zi {xs:aZ} (h:VM xs) (hi:∀r∈xs,qV r):fx xs xs.length:=by
 intro k hk _;refine ⟨hi _ (List.getElem_mem hk),fun h0 => ?_⟩;unfold VM at h;rw [List.pairwise_iff_getElem] at h;exact h (k-1) k (by omega) hk (by omega)
theorem sY {xs:aZ} (h:fx xs xs.length):∀r∈xs,qV r:=by
 intro r hr;obtain ⟨k,hk,rfl⟩:=List.mem_iff_getElem.1 hr;exact (h k hk hk).1
theorem JM {r m:ez}:{xs:aZ}→r∈oc xs m→r=m∨r∈xs
 | [],h=>by
  unfold oc at h;exact .inl (List.mem_singleton.1 h)
 |x::xs,h=>by
  unfold oc at h
  split at h
  ·rcases List.mem_cons.1 h with rfl | h
   ·exact .inr List.mem_cons_self
   ·exact (JM h).imp id (List.mem_cons_of_mem _)
  ·split at h
   ·exact .inr h
   ·rcases List.mem_cons.1 h with rfl | h
    ·exact .inl rfl
    ·exact .inr h
theorem PN {m:ez}:{xs:aZ}→VM xs→VM (oc xs m)
 | [],_=>by unfold oc VM;simp
 |x::xs,h=>by
  unfold VM at h;rw [List.pairwise_cons] at h;unfold oc
  split
  ·rename_i dB;unfold VM;rw [List.pairwise_cons];refine ⟨fun y hy => ?_,PN h.2⟩;rcases JM hy with rfl | hy
   ·exact dB
   ·exact h.1 y hy
  ·split
   ·unfold VM;rw [List.pairwise_cons];exact h
   ·unfold VM;rw [List.pairwise_cons,List.pairwise_cons];refine ⟨fun y hy => ?_,h⟩;rcases List.mem_cons.1 hy with rfl | hy
    ·omega
    ·have:=h.1 y hy;omega
theorem An {xs:aZ} {m:ez} (h:fx xs xs.length) (hm:qV m):fx (oc xs m) (oc xs m).length:=
 Zi (PN (Zh h)) fun r hr=>(JM hr).elim (fun e=>e▸hm) (sY h r)
def qW (xs:aZ) (m:ez):aZ:=xs.filter fun r=>decide (r.1<m.1)
def wZ (xs:aZ) (m:ez):aZ:=xs.filter fun r=>decide (m.1<r.1)
def E3 (xs:aZ) (s:Int):Bool:=xs.any fun r=>decide (r.1=s)
theorem G0 (m:ez):(xs:aZ)→VM xs→oc xs m=bif E3 xs m.1 then xs else qW xs m++[m]++wZ xs m
 | [],_=>rfl
 |r::xs,h=>by
  unfold VM at h;rw [List.pairwise_cons] at h;have ih:=G0 m xs h.2;unfold oc
  by_cases h1:r.1<m.1
  ·rw [if_pos h1,ih];have e1:E3 (r::xs) m.1=E3 xs m.1:=by unfold E3;rw [List.any_cons,ak (show ¬r.1=m.1 by omega)];rfl
   have e2:qW (r::xs) m=r::qW xs m:=by unfold qW;rw [List.filter_cons,if_pos (aq h1)]
   have e3:wZ (r::xs) m=wZ xs m:=by unfold wZ;rw [List.filter_cons,if_neg (by rw [decide_eq_true_eq];omega)]
   rw [e1,e2,e3]
   cases E3 xs m.1<;>rfl
  ·rw [if_neg h1]
   by_cases h2:r.1=m.1
   ·have e1:E3 (r::xs) m.1=true:=by unfold E3;rw [List.any_cons,aq h2];rfl
    rw [if_pos h2,e1];rfl
   ·rw [if_neg h2];have sw:∀y∈r::xs,m.1<y.1:=by
     intro y hy;rcases List.mem_cons.1 hy with rfl | hy
     ·omega
     ·have:=h.1 y hy;omega
    have e1:E3 (r::xs) m.1=false:=by
     unfold E3;rw [List.any_eq_false];intro y hy;have:=sw y hy;rw [decide_eq_true_eq];omega
    have e2:qW (r::xs) m=[]:=by
     unfold qW;rw [List.filter_eq_nil_iff];intro y hy;have:=sw y hy;rw [decide_eq_true_eq];omega
    have e3:wZ (r::xs) m=r::xs:=by
     unfold wZ;rw [List.filter_eq_self];intro y hy;exact aq (sw y hy)
    rw [e1,e2,e3];rfl
theorem Ao (xs:aZ) (m:ez) (h:xs.length≤1048576) (hi:nL xs=true) (hm:AR m=true):jz xs m.1 m.2.1 m.2.2.1 m.2.2.2.1=some (oc xs m,()):=by
 obtain ⟨k1,_,k3⟩:=qc xs h;obtain ⟨q1,_,_⟩:=Al m;have hs:=Zh (k3.1 hi);have hlen:∀k,(qW (xs.take k) m).length≤k:=fun k=>Nat.le_trans (List.length_filter_le _ _) (by rw [List.length_take];omega)
 have OZ:∀k,(wZ (xs.take k) m).length≤k:=fun k=>Nat.le_trans (List.length_filter_le _ _) (by rw [List.length_take];omega)
 have l1:=tI (round:=kx) (n:=xs.length) (fun k=>(xs,m.1,m.2.1,m.2.2.1,m.2.2.2.1,xs,qW (xs.take k) m,((k:Nat):Int),())) (fun k=>some (bif E3 (xs.drop k) m.1 then .inr (xs,()) else .inl (xs,m.1,m.2.1,m.2.2.1,m.2.2.2.1,qW xs m,())))
  ⟨.inl (xs,m.1,m.2.1,m.2.2.1,m.2.2.2.1,qW xs m,()),by simp only [kx,bz,ub,aF,aJ,cond_false,List.take_length],by rw [List.drop_length];rfl⟩ (fun k hk=>by
   have e:E3 (xs.drop k) m.1=(decide (xs[k].1=m.1)||E3 (xs.drop (k+1)) m.1):=by unfold E3;rw [List.drop_eq_getElem_cons hk,List.any_cons]
   have e2:qW (xs.take (k+1)) m=qW (xs.take k) m++(if decide (xs[k].1<m.1)=true then [xs[k]] else []):=by
    unfold qW;rw [List.take_succ_eq_append_getElem hk,List.filter_append,List.filter_cons]
    split<;>rfl
   have hb:Nat.ble (((qW (xs.take k) m).length+1)*40) lim=true:=aW (by have:=hlen k;unfold lim;omega);simp only [kx,bz,ub,aF,aD hk,au,cond_true,aC,List.getElem?_eq_getElem hk,Option.bind_some,aH (show k<4611686018427387904 by omega),hb,e,e2]
   by_cases h1:xs[k].1=m.1
   ·rw [aq h1];exact .inl ⟨_,rfl,rfl⟩
   ·rw [ak h1];refine .inr ⟨?_,rfl⟩
    by_cases h2:xs[k].1<m.1
    ·rw [aq h2];rfl
    ·rw [ak h2,if_neg (by decide),List.append_nil];rfl) 0 (Nat.zero_le _)
 have l1:aI kx (xs,m.1,m.2.1,m.2.2.1,m.2.2.2.1,xs,[],(0:Int),())=_:=l1;rw [List.drop_zero] at l1;have l2:=bP (round:=jj) (e:=.inl (qW xs m++[m]++wZ xs m,())) xs.length (fun k=>(xs,m.1,m.2.1,m.2.2.1,m.2.2.2.1,qW xs m++[m]++wZ (xs.take k) m,((k:Nat):Int),())) (by
  simp only [jj,aP,uc,aF,aJ,cond_false,List.take_length]) (fun k hk=>by
   have e2:wZ (xs.take (k+1)) m=wZ (xs.take k) m++(if decide (m.1<xs[k].1)=true then [xs[k]] else []):=by
    unfold wZ;rw [List.take_succ_eq_append_getElem hk,List.filter_append,List.filter_cons]
    split<;>rfl
   have hb:Nat.ble (((qW xs m++[m]++wZ (xs.take k) m).length+1)*40) lim=true:=aW (by
    have h1:=hlen xs.length;rw [List.take_length] at h1;have h2:=OZ k;simp only [List.length_append,List.length_cons,List.length_nil];unfold lim;omega)
   simp only [jj,aP,uc,aF,aD hk,au,cond_true,aC,List.getElem?_eq_getElem hk,Option.bind_some,aH (show k<4611686018427387904 by omega),hb,e2]
   by_cases h2:m.1<xs[k].1
   ·rw [aq h2,if_pos rfl,←List.append_assoc];rfl
   ·rw [ak h2,if_neg (by decide),List.append_nil];rfl)
 have l2:aI jj (xs,m.1,m.2.1,m.2.2.1,m.2.2.2.1,qW xs m++[m]++wZ (xs.take 0) m,(0:Int),())=_:=l2;rw [show wZ (xs.take 0) m=[] from rfl,List.append_nil] at l2;have Ws:Nat.ble ((0+xs.length)*40) lim=true:=aW (by unfold lim;omega);have Ie:Nat.ble (((qW xs m).length+1)*40) lim=true:=aW (by
  have h1:=hlen xs.length;rw [List.take_length] at h1;unfold lim;omega)
 rw [G0 m xs hs];unfold jz;delta aF;simp only [k1,q1,hi,hm,Ws,cond_true,Bool.not_true,cond_false,Option.bind_some,List.nil_append,l1]
 cases E3 xs m.1
 ·have l3:aI jj (xs,m.1,m.2.1,m.2.2.1,m.2.2.2.1,qW xs m++[(m.1,m.2.1,m.2.2.1,m.2.2.2.1,())],(0:Int),())=_:=l2;simp only [cond_false,bU,Option.bind_some,Ie,cond_true,l3]
 ·rfl
theorem Ap (xs:aZ) (m:ez) (h:xs.length≤1048576):pr xs m.1 m.2.1 m.2.2.1 m.2.2.2.1=some (oc xs m,()):=by
 have l1:=tI (round:=kE) (n:=xs.length) (fun k=>(xs,m.1,m.2.1,m.2.2.1,m.2.2.2.1,((k:Nat):Int),())) (fun k=>some (.inl (xs,m.1,m.2.1,m.2.2.1,m.2.2.2.1,((k+pS (xs.drop k) m:Nat):Int),())))
  ⟨.inl (xs,m.1,m.2.1,m.2.2.1,m.2.2.2.1,((xs.length:Nat):Int),()),by simp only [kE,aP,uE,aJ,cond_false],by rw [List.drop_length];rfl⟩ (fun k hk=>by
   have e:pS (xs.drop k) m=if xs[k].1<m.1 then pS (xs.drop (k+1)) m+1 else 0:=by rw [List.drop_eq_getElem_cons hk,Gh]
   simp only [kE,aP,uE,aD hk,au,cond_true,aC,cw hk,List.getElem?_eq_getElem hk,Option.bind_some,aH (show k<4611686018427387904 by omega),e]
   by_cases h1:xs[k].1<m.1
   ·rw [aq h1,if_pos h1];exact .inr ⟨rfl,by rw [show k+(pS (xs.drop (k+1)) m+1)=k+1+pS (xs.drop (k+1)) m by omega]⟩
   ·rw [ak h1,if_neg h1];exact .inl ⟨_,rfl,rfl⟩) 0 (Nat.zero_le _)
 have l1:aI kE (xs,m.1,m.2.1,m.2.2.1,m.2.2.2.1,(0:Int),())=_:=l1;rw [List.drop_zero,Nat.zero_add] at l1;have hp:=abm xs m;have av1:Po xs ((pS xs m:Nat):Int) [(m.1,m.2.1,m.2.2.1,m.2.2.2.1,())]=some (xs.take (pS xs m)++([m]++xs.drop (pS xs m)),()):=by
  unfold Po;rw [au,aq (show ((pS xs m:Nat):Int)≤((xs.length:Nat):Int) by omega),aW (show (xs.length+1)*40≤lim by unfold lim;omega)];rfl
 rw [PM];unfold pr;delta aF;simp only [l1,bU,av1,Option.bind_some]
 by_cases h1:pS xs m<xs.length
 ·simp only [dif_pos h1,aD h1,au,aC,cw h1,cond_true,List.getElem?_eq_getElem h1,Option.bind_some]
  by_cases h2:xs[pS xs m].1=m.1
  ·rw [aq h2,if_pos h2];rfl
  ·rw [ak h2,if_neg h2];rfl
 ·rw [dif_neg h1,ak (show ¬((pS xs m:Nat):Int)<((xs.length:Nat):Int) by omega)];rfl
noncomputable def JN (xs:aZ) (m:ez):aZ:=bif nL xs&&AR m then oc xs m else xs
theorem Nv (xs:aZ) (m:ez) (h:xs.length≤1048576):jz xs m.1 m.2.1 m.2.2.1 m.2.2.2.1=some (JN xs m,())∧vr xs m.1 m.2.1 m.2.2.1 m.2.2.2.1=some (JN xs m,()):=by
 obtain ⟨k1,k2,_⟩:=qc xs h;obtain ⟨q1,q2,_⟩:=Al m;have Ws:Nat.ble ((0+xs.length)*40) lim=true:=aW (by unfold lim;omega);unfold JN
 constructor
 ·cases hi:nL xs
  ·unfold jz;delta aF;simp only [k1,hi,Ws,cond_true,Option.bind_some];rfl
  ·cases hm:AR m
   ·unfold jz;delta aF;simp only [k1,q1,hi,hm,Ws,cond_true,Option.bind_some];rfl
   ·exact Ao xs m h hi hm
 ·unfold vr;simp only [k2,q2,xD xs h,Option.bind_some,Ap xs m h]
  cases nL xs<;>cases AR m<;>rfl
def CG (m:ia) (xs:aZ):ia:=(m.1,m.2.1,m.2.2.1,xs,m.2.2.2.2)
noncomputable def pT (m:ia) (x:ez):ia:=bif uN m then CG m (JN m.2.2.2.1 x) else m
theorem RF (m:ia) (x:ez) (h:mP m≤1048576):wE m.1 m.2.1 m.2.2.1 m.2.2.2.1 m.2.2.2.2.1 m.q.1 m.q.2.1 m.q.2.2.1 m.q.2.2.2.1 m.q.2.2.2.2.1 m.q.q.1 m.q.q.2.1 m.q.q.2.2.1 m.q.q.2.2.2.1 m.q.q.2.2.2.2.1 m.q.q.q.1 x.1 x.2.1 x.2.2.1 x.2.2.2.1=some (pT m x)∧wT m.1 m.2.1 m.2.2.1 m.2.2.2.1 m.2.2.2.2.1 m.q.1 m.q.2.1 m.q.2.2.1 m.q.2.2.2.1 m.q.2.2.2.2.1 m.q.q.1 m.q.q.2.1 m.q.q.2.2.1 m.q.q.2.2.2.1 m.q.q.2.2.2.2.1 m.q.q.q.1 x.1 x.2.1 x.2.2.1 x.2.2.2.1=some (pT m x):=by
 obtain ⟨k1,k2,_⟩:=uO m h;obtain ⟨p1,p2⟩:=oU m.1 m.2.1 m.2.2.1 m.2.2.2.1 m.2.2.2.2.1 m.q.1 m.q.2.1 m.q.2.2.1 m.q.2.2.2.1 m.q.2.2.2.2.1 m.q.q.1 m.q.q.2.1 m.q.q.2.2.1 m.q.q.2.2.2.1 m.q.q.2.2.2.2.1 m.q.q.q.1 h;have hl:m.2.2.2.1.length≤1048576:=by unfold mP at h;omega
 obtain ⟨q1,q2⟩:=Nv m.2.2.2.1 x hl;unfold pT
 constructor
 ·unfold wE;simp only [p1,k1,q1,Option.bind_some]
  cases uN m<;>rfl
 ·unfold wT;simp only [p2,k2,q2,Option.bind_some]
  cases uN m<;>rfl
theorem VN {xs:aZ} {x:ez} (hx:fx xs xs.length):(JN xs x).length+wl ec (JN xs x)≤3660:=by
 have h1:=di xs hx;unfold JN
 cases hc:nL xs&&AR x
 ·show xs.length+wl ec xs≤3660;omega
 ·have hm:qV x:=(Al x).2.2.1 (by rw [Bool.and_eq_true] at hc;exact hc.2);have:=di _ (An hx hm);show (oc xs x).length+wl ec (oc xs x)≤3660;omega
theorem RG (m:ia) (x:ez) (h:mP m≤1048576):mP (pT m x)≤1048576:=by
 unfold pT
 cases hb:uN m
 ·exact h
 ·have hq:=(uO m h).2.2.1 hb;have h1:=hq.small;have h2:=VN (x:=x) hq.items;unfold mP at h1;show (List.length m.2.2.1+wl kY m.2.2.1)+(List.length (JN m.2.2.2.1 x)+wl ec (JN m.2.2.2.1 x))+(List.length m.2.2.2.2.1+wl kY m.2.2.2.2.1)+(List.length m.q.1+wl KM m.q.1)+(List.length m.q.q.q.1+wl kY m.q.q.q.1)≤1048576;omega
end Go.TM
set_option linter.unusedSimpArgs false
set_option linter.unusedVariables false
namespace Go.TM
open Go
theorem xE {α:Type} (p:α→Bool) (xs:List α) {k:Nat} (hk:k<xs.length):(xs.take (k+1)).filter p=(xs.take k).filter p++(if p xs[k]=true then [xs[k]] else []):=by
 rw [List.take_succ_eq_append_getElem hk,List.filter_append,List.filter_cons]
 split<;>rfl
theorem Aq {α:Type} (p:α→Bool) (xs:List α) (k:Nat):((xs.take k).filter p).length≤k:=Nat.le_trans (List.length_filter_le _ _) (by rw [List.length_take];omega)
theorem Ar:(l:aZ)→{out:aZ}→fx out out.length→(∀r∈l,qV r)→fx (l.foldl oc out) (l.foldl oc out).length
 | [],_,h,_=>h
 |x::l,_,h,hl=>Ar l (An h (hl x List.mem_cons_self)) (fun r hr=>hl r (List.mem_cons_of_mem _ hr))
theorem sZ:fx [] ([]:aZ).length:=fun k hk=>by simp at hk
noncomputable def jd (out:aZ) (l:aZ×Unit):aZ:=bif nL l.1 then l.1.foldl oc out else out
noncomputable def x8 (lists:List (aZ×Unit)):aZ:=lists.foldl jd []
theorem RH {out:aZ} {l:aZ×Unit} (h:fx out out.length) (hl:l.1.length≤1048576):fx (jd out l) (jd out l).length:=by
 unfold jd
 cases hb:nL l.1
 ·exact h
 ·exact Ar l.1 h (sY ((qc l.1 hl).2.2.1 hb))
theorem oW:(lists:List (aZ×Unit))→{out:aZ}→fx out out.length→(∀l∈lists,l.1.length≤1048576)→fx (lists.foldl jd out) (lists.foldl jd out).length
 | [],_,h,_=>h
 |l::lists,_,h,hl=>oW lists (RH h (hl l List.mem_cons_self)) (fun x hx=>hl x (List.mem_cons_of_mem _ hx))
theorem yF {xs:aZ} (h:fx xs xs.length):xs.length≤1048576:=Nat.le_trans (di xs h).1 (by decide)
theorem abn {xs:aZ} (h:fx xs xs.length):nL xs=true:=(qc xs (yF h)).2.2.2 h
theorem ais {r:ez} (h:qV r):AR r=true:=(Al r).2.2.2 h
theorem RI (lists:List (aZ×Unit)) (h:lists.length≤1048576) (hl:∀l∈lists,l.1.length≤1048576):zH lists=some (x8 lists,()):=by
 have l1:=bP (round:=nt) (e:=.inl (x8 lists,())) lists.length (fun k=>(lists,(lists.take k).foldl jd [],((k:Nat):Int),())) (by
  simp only [nt,xU,aJ,cond_false,List.take_length];rfl) (fun k hk=>by
  have Zj:=oW (lists.take k) (out:=[]) sZ (fun l Cm=>hl l (List.mem_of_mem_take Cm));have hlk:=hl _ (List.getElem_mem hk);rw [vO _ _ _ hk];generalize (lists.take k).foldl jd []=out at Zj ⊢;obtain ⟨i1,_,i3⟩:=qc lists[k].1 hlk;simp only [nt,xU,aD hk,cond_true]
  cases hb:nL lists[k].1
  ·have l2:aI iQ (lists,out,((k:Nat):Int),(0:Int),())=some (.inl (lists,out,((k:Nat):Int),())):=by
    rw [lP]
    by_cases h0:(0:Int)<((List.length lists[k].1:Nat):Int)
    ·simp only [iQ,ax,p8,ax,au,cond_true,aC,List.getElem?_eq_getElem hk,Option.bind_some,aq h0,i1,hb,cond_false]
    ·simp only [iQ,ax,p8,ax,au,cond_true,aC,List.getElem?_eq_getElem hk,Option.bind_some,ak h0,cond_false]
   simp only [l2,bU,Option.bind_some,jd,hb,cond_false,aH (show k<4611686018427387904 by omega)]
  ·have sw:=sY (i3.1 hb);have l2:=bP (round:=iQ) (e:=.inl (lists,lists[k].1.foldl oc out,((k:Nat):Int),())) lists[k].1.length (fun j=>(lists,(lists[k].1.take j).foldl oc out,((k:Nat):Int),((j:Nat):Int),())) (by
    simp only [iQ,ax,p8,ax,au,cond_true,aC,List.getElem?_eq_getElem hk,Option.bind_some,aJ,cond_false,List.take_length]) (fun j hj=>by
    have T1:=Ar (lists[k].1.take j) Zj (fun r hr=>sw r (List.mem_of_mem_take hr));have hp:=Ao ((lists[k].1.take j).foldl oc out) lists[k].1[j] (yF T1) (abn T1) (ais (sw _ (List.getElem_mem hj)));simp only [iQ,ax,p8,ax,au,cond_true,aC,List.getElem?_eq_getElem hk,List.getElem?_eq_getElem hj,Option.bind_some,aD hj,i1,hb,hp,aH (show j<4611686018427387904 by omega)];rw [vO _ _ _ hj])
   have l2:aI iQ (lists,out,((k:Nat):Int),(0:Int),())=_:=l2;simp only [l2,bU,Option.bind_some,jd,hb,cond_true,aH (show k<4611686018427387904 by omega)])
 have l1:aI nt (lists,[],(0:Int),())=_:=l1;unfold zH;rw [l1];rfl
theorem RJ (lists:List (aZ×Unit)) (h:lists.length≤1048576) (hl:∀l∈lists,l.1.length≤1048576):z8 lists=some (x8 lists,()):=by
 have l1:=bP (round:=nA) (e:=.inl (x8 lists,())) lists.length (fun k=>((lists.take k).foldl jd [],lists,((lists.length:Nat):Int),((k:Nat):Int),())) (by
  simp only [nA,ax,x4,aJ,cond_false,List.take_length];rfl) (fun k hk=>by
  have Zj:=oW (lists.take k) (out:=[]) sZ (fun l Cm=>hl l (List.mem_of_mem_take Cm));have hlk:=hl _ (List.getElem_mem hk);rw [vO _ _ _ hk];generalize (lists.take k).foldl jd []=out at Zj ⊢;obtain ⟨_,i2,i3⟩:=qc lists[k].1 hlk;simp only [nA,ax,x4,aD hk,cond_true,au,aC,List.getElem?_eq_getElem hk,Option.bind_some,i2]
  cases hb:nL lists[k].1
  ·simp only [jd,hb,Bool.not_false,cond_true,cond_false,aH (show k<4611686018427387904 by omega)]
  ·have sw:=sY (i3.1 hb);have l2:=bP (round:=nz) (e:=.inl (lists[k].1.foldl oc out,lists,((lists.length:Nat):Int),((k:Nat):Int),())) lists[k].1.length (fun j=>((lists[k].1.take j).foldl oc out,lists,((lists.length:Nat):Int),((k:Nat):Int),lists[k].1,((lists[k].1.length:Nat):Int),((j:Nat):Int),())) (by
    simp only [nz,aP,xZ,ax,aJ,cond_false,List.take_length]) (fun j hj=>by
    have T1:=Ar (lists[k].1.take j) Zj (fun r hr=>sw r (List.mem_of_mem_take hr));have hp:=Ap ((lists[k].1.take j).foldl oc out) lists[k].1[j] (yF T1);simp only [nz,aP,xZ,ax,au,cond_true,aC,List.getElem?_eq_getElem hj,Option.bind_some,aD hj,hp,aH (show j<4611686018427387904 by omega)];rw [vO _ _ _ hj])
   have l2:aI nz (out,lists,((lists.length:Nat):Int),((k:Nat):Int),lists[k].1,((lists[k].1.length:Nat):Int),(0:Int),())=_:=l2;simp only [l2,bU,Option.bind_some,jd,hb,Bool.not_true,cond_true,cond_false,aH (show k<4611686018427387904 by omega)])
 have l1:aI nA ([],lists,((lists.length:Nat):Int),(0:Int),())=_:=l1;unfold z8;rw [l1];rfl
noncomputable def x9 (xs:aZ):aZ:=xs.filter fun r=>decide (r.1≤((dJ xs:Nat):Int))
theorem RK (xs:aZ) (h:xs.length≤1048576):zI xs=some (x9 xs,()):=by
 obtain ⟨a1,_,_⟩:=Am xs h;have l1:=bP (round:=nu) (e:=.inl (x9 xs,())) xs.length (fun k=>(xs,(xs.take k).filter (fun r=>decide (r.1≤((dJ xs:Nat):Int))),((dJ xs:Nat):Int),((k:Nat):Int),())) (by
  simp only [nu,ax,xV,aF,aJ,cond_false,List.take_length];rfl) (fun k hk=>by
  have hb:=Aq (fun r:ez=>decide (r.1≤((dJ xs:Nat):Int))) xs k;rw [xE _ _ hk];simp only [nu,ax,xV,aF,aD hk,au,cond_true,aC,List.getElem?_eq_getElem hk,Option.bind_some,aH (show k<4611686018427387904 by omega),aW (show (((xs.take k).filter (fun r=>decide (r.1≤((dJ xs:Nat):Int)))).length+1)*40≤lim by unfold lim;omega)]
  by_cases h1:xs[k].1≤((dJ xs:Nat):Int)
  ·rw [aq h1];rfl
  ·rw [ak h1,if_neg (by decide),List.append_nil];rfl)
 have l1:aI nu (xs,[],((dJ xs:Nat):Int),(0:Int),())=_:=l1;unfold zI;simp only [a1,Option.bind_some,l1,bU]
theorem RL (xs:aZ) (h:xs.length≤1048576):Aa xs=some (x9 xs,()):=by
 obtain ⟨_,a1,_⟩:=Am xs h;have l1:=bP (round:=nB) (e:=.inl (x9 xs,())) xs.length (fun k=>(((dJ xs:Nat):Int),(xs.take k).filter (fun r=>decide (r.1≤((dJ xs:Nat):Int))),xs,((xs.length:Nat):Int),((k:Nat):Int),())) (by
  simp only [nB,ax,x5,aF,aJ,cond_false,List.take_length];rfl) (fun k hk=>by
  have hb:=Aq (fun r:ez=>decide (r.1≤((dJ xs:Nat):Int))) xs k;rw [xE _ _ hk];simp only [nB,ax,x5,aF,aD hk,au,cond_true,aC,List.getElem?_eq_getElem hk,Option.bind_some,aH (show k<4611686018427387904 by omega),aW (show (((xs.take k).filter (fun r=>decide (r.1≤((dJ xs:Nat):Int)))).length+1)*40≤lim by unfold lim;omega)]
  by_cases h1:xs[k].1≤((dJ xs:Nat):Int)
  ·rw [aq h1];rfl
  ·rw [ak h1,if_neg (by decide),List.append_nil];rfl)
 have l1:aI nB (((dJ xs:Nat):Int),[],xs,((xs.length:Nat):Int),(0:Int),())=_:=l1;unfold Aa;simp only [a1,Option.bind_some,l1,bU]
noncomputable def iY (xs:List eC) (c:Int) (d:Int×Unit):aZ×Unit:=((uM (il xs c d.1)).2.2.2.1,())
noncomputable def uQ (xs:List eC) (c:Int) (ms:cG) (id:Int):aZ:=x9 (x8 ((fw xs c ms id).map (iY xs c)))
noncomputable def uV (xs:List eC) (c:Int) (ms:cG) (id heard:Int):aZ:=
 match il xs c id with
 |none=>[]
 |some gX=>bif decide (gX.2.2.1=0) then [] else (uQ xs c ms id).filter fun r=>decide (heard<r.1)
theorem vv (xs:List eC) (c:Int) (h:jF xs) (d:Int×Unit):(iY xs c d).1.length≤1048576:=by
 have Wk:=h.len;unfold iY
 cases hb:il xs c d.1 with
 |none=>exact Nat.zero_le _
 |some b=>
  obtain ⟨k,hk,rfl⟩:=List.mem_iff_getElem.1 (Ge hb).1;exact h.at hk
theorem VO (bL:Int) (bI:cG) (xs:List eC) (id heard:Int) (h0:bI.length≤1048576) (h:jF xs):vJ bL bI xs id heard=some (uV xs bL bI id heard,()):=by
 have Wk:=h.len;obtain ⟨t1,t2,t3⟩:=tz bL bI xs id h0 h;have hw:(fw xs bL bI id).length≤1048576:=by omega
 have hls:((fw xs bL bI id).map (iY xs bL)).length≤1048576:=by rw [List.length_map];exact hw
 have hll:∀l∈(fw xs bL bI id).map (iY xs bL),l.1.length≤1048576:=fun l hl=>by
  obtain ⟨d,_,rfl⟩:=List.mem_map.1 hl;exact vv xs bL h d
 have hu:(x8 ((fw xs bL bI id).map (iY xs bL))).length≤1048576:=yF (oW _ (out:=[]) sZ hll);have hwl:(uQ xs bL bI id).length≤1048576:=Nat.le_trans (List.length_filter_le _ _) hu;unfold vJ uV;rw [sX _ _ _ _ h]
 cases hm:il xs bL id with
 |none=>rfl
 |some gX=>
  by_cases ho:gX.2.2.1=0
  ·simp only [uM,Option.bind_some,Bool.not_true,cond_false,Y9 ho,cond_true]
  simp only [uM,Option.bind_some,Bool.not_true,cond_false,VH ho,t1,t2];have l1:=bP (round:=mL) (e:=.inl (heard,[],(fw xs bL bI id).map (iY xs bL),())) (fw xs bL bI id).length (fun k=>(xs,heard,bL,bI,[],((fw xs bL bI id).take k).map (iY xs bL),fw xs bL bI id,((k:Nat):Int),())) (by
   simp only [mL,bz,rR,aJ,cond_false,List.take_length]) (fun k hk=>by
   simp only [mL,bz,rR,aD hk,au,cond_true,aC,cw hk,List.getElem?_eq_getElem hk,Option.bind_some,sX _ _ _ _ h,List.length_map,List.length_take,Nat.min_eq_left (Nat.le_of_lt hk),aW (show (k+1)*24≤lim by unfold lim;omega),aH (show k<4611686018427387904 by omega)];rw [List.take_succ_eq_append_getElem hk,List.map_append];rfl)
  have l1:aI mL (xs,heard,bL,bI,[],[],fw xs bL bI id,(0:Int),())=_:=l1;have l2:=bP (round:=pk) (e:=.inl ((uQ xs bL bI id).filter (fun r=>decide (heard<r.1)),())) (uQ xs bL bI id).length (fun k=>(heard,((uQ xs bL bI id).take k).filter (fun r=>decide (heard<r.1)),uQ xs bL bI id,((k:Nat):Int),())) (by
   simp only [pk,ax,zL,aF,aJ,cond_false,List.take_length]) (fun k hk=>by
   have hb:=Aq (fun r:ez=>decide (heard<r.1)) (uQ xs bL bI id) k;rw [xE _ _ hk];simp only [pk,ax,zL,aF,aD hk,au,cond_true,aC,cw hk,List.getElem?_eq_getElem hk,Option.bind_some,aH (show k<4611686018427387904 by omega),aW (show ((((uQ xs bL bI id).take k).filter (fun r=>decide (heard<r.1))).length+1)*40≤lim by unfold lim;omega)]
   by_cases h1:heard<(uQ xs bL bI id)[k].1
   ·rw [aq h1];rfl
   ·rw [ak h1,if_neg (by decide),List.append_nil];rfl)
  have l2:aI pk (heard,[],x9 (x8 ((fw xs bL bI id).map (iY xs bL))),(0:Int),())=_:=l2;simp only [l1,bU,Option.bind_some,RI _ hls hll,RK _ hu,l2]
theorem VP (bL:Int) (bI:cG) (xs:List eC) (id heard:Int) (h0:bI.length≤1048576) (h:jF xs):vL bL bI xs id heard=some (uV xs bL bI id heard,()):=by
 have Wk:=h.len;obtain ⟨t1,t2,t3⟩:=tz bL bI xs id h0 h;have hw:(fw xs bL bI id).length≤1048576:=by omega
 have hls:((fw xs bL bI id).map (iY xs bL)).length≤1048576:=by rw [List.length_map];exact hw
 have hll:∀l∈(fw xs bL bI id).map (iY xs bL),l.1.length≤1048576:=fun l hl=>by
  obtain ⟨d,_,rfl⟩:=List.mem_map.1 hl;exact vv xs bL h d
 have hu:(x8 ((fw xs bL bI id).map (iY xs bL))).length≤1048576:=yF (oW _ (out:=[]) sZ hll);have hwl:(uQ xs bL bI id).length≤1048576:=Nat.le_trans (List.length_filter_le _ _) hu;unfold vL uV;rw [wY _ _ _ _ h]
 cases hm:il xs bL id with
 |none=>rfl
 |some gX=>
  by_cases ho:gX.2.2.1=0
  ·simp only [uM,Option.bind_some,Bool.not_true,cond_false,Y9 ho,cond_true]
  simp only [uM,Option.bind_some,Bool.not_true,cond_false,VH ho,t1,t2];have l1:=bP (round:=pt) (e:=.inl (heard,(fw xs bL bI id).map (iY xs bL),())) (fw xs bL bI id).length (fun k=>(xs,heard,bL,bI,((fw xs bL bI id).take k).map (iY xs bL),fw xs bL bI id,(((fw xs bL bI id).length:Nat):Int),((k:Nat):Int),())) (by
   simp only [pt,bz,Ab,aJ,cond_false,List.take_length]) (fun k hk=>by
   simp only [pt,bz,Ab,aD hk,au,cond_true,aC,cw hk,List.getElem?_eq_getElem hk,Option.bind_some,wY _ _ _ _ h,List.length_map,List.length_take,Nat.min_eq_left (Nat.le_of_lt hk),aW (show (k+1)*24≤lim by unfold lim;omega),aH (show k<4611686018427387904 by omega)];rw [List.take_succ_eq_append_getElem hk,List.map_append];rfl)
  have l1:aI pt (xs,heard,bL,bI,[],fw xs bL bI id,(((fw xs bL bI id).length:Nat):Int),(0:Int),())=_:=l1;have l2:=bP (round:=pv) (e:=.inl ((uQ xs bL bI id).filter (fun r=>decide (heard<r.1)),())) (uQ xs bL bI id).length (fun k=>(heard,((uQ xs bL bI id).take k).filter (fun r=>decide (heard<r.1)),uQ xs bL bI id,(((uQ xs bL bI id).length:Nat):Int),((k:Nat):Int),())) (by
   simp only [pv,ax,Ac,aF,aJ,cond_false,List.take_length]) (fun k hk=>by
   have hb:=Aq (fun r:ez=>decide (heard<r.1)) (uQ xs bL bI id) k;rw [xE _ _ hk];simp only [pv,ax,Ac,aF,aD hk,au,cond_true,aC,cw hk,List.getElem?_eq_getElem hk,Option.bind_some,aH (show k<4611686018427387904 by omega),aW (show ((((uQ xs bL bI id).take k).filter (fun r=>decide (heard<r.1))).length+1)*40≤lim by unfold lim;omega)]
   by_cases h1:heard<(uQ xs bL bI id)[k].1
   ·rw [aq h1];rfl
   ·rw [ak h1,if_neg (by decide),List.append_nil];rfl)
  have l2:aI pv (heard,[],x9 (x8 ((fw xs bL bI id).map (iY xs bL))),(((x9 (x8 ((fw xs bL bI id).map (iY xs bL)))).length:Nat):Int),(0:Int),())=_:=l2;simp only [l1,bU,Option.bind_some,RJ _ hls hll,RL _ hu,l2]
theorem VQ (bL:Int) (bI:cG) (xs:List eC) (id heard:Int) (h0:bI.length≤1048576) (h:jF xs):vJ bL bI xs id heard=some (uV xs bL bI id heard,())∧vL bL bI xs id heard=some (uV xs bL bI id heard,()):=⟨VO _ _ _ _ _ h0 h,VP _ _ _ _ _ h0 h⟩
theorem Gi {α:Type} (f:α→Nat) (p:α→Bool):(xs:List α)→wl f (xs.filter p)≤wl f xs
 | []=>Nat.le_refl _
 |x::xs=>by
  have:=Gi f p xs;rw [List.filter_cons]
  split
  ·rw [tf,tf];omega
  ·rw [tf];omega
theorem VR (xs:List eC) (c:Int) (ms:cG) (id:Int) (h:jF xs):(uQ xs c ms id).length≤60∧wl ec (uQ xs c ms id)≤3600:=by
 have Wk:=h.len;have hll:∀l∈(fw xs c ms id).map (iY xs c),l.1.length≤1048576:=fun l hl=>by
  obtain ⟨d,_,rfl⟩:=List.mem_map.1 hl;exact vv xs c h d
 have:=di _ (oW _ (out:=[]) sZ hll);unfold uQ x9;exact ⟨Nat.le_trans (List.length_filter_le _ _) this.1,Nat.le_trans (Gi _ _ _) this.2⟩
theorem RM (xs:List eC) (c:Int) (ms:cG) (id heard:Int) (h:jF xs):(uV xs c ms id heard).length≤60∧wl ec (uV xs c ms id heard)≤3600:=by
 have Wk:=h.len;have:=VR xs c ms id h;unfold uV
 cases il xs c id with
 |none=>exact ⟨Nat.zero_le _,Nat.zero_le _⟩
 |some gX=>
  show (bif decide (gX.2.2.1=0) then [] else (uQ xs c ms id).filter fun r=>decide (heard<r.1)).length≤60∧wl ec (bif decide (gX.2.2.1=0) then [] else (uQ xs c ms id).filter fun r=>decide (heard<r.1))≤3600
  cases decide (gX.2.2.1=0)
  ·exact ⟨Nat.le_trans (List.length_filter_le _ _) this.1,Nat.le_trans (Gi _ _ _) this.2⟩
  ·exact ⟨Nat.zero_le _,Nat.zero_le _⟩
end Go.TM
set_option linter.unusedSimpArgs false
set_option linter.unusedVariables false
namespace Go.TM
open Go
noncomputable def ld (c:Int) (ms:List (Int×Unit)) (xs:List eC):Bool:=ms.all fun m=>(il xs c m.1).isSome
theorem Zk (b:eC) (c id:Int) (ms:List (Int×Unit)) (h:b.2.2.2.1.length≤1048576):rW b.1 b.2.1 b.2.2.1 b.2.2.2.1 [(id,())] [(c,ms,())]=some (decide (b.1=id)&&(decide (b.2.1=c)&&qU b),()):=by
 unfold rW;have h1:=(sW b h).2;simp only [List.getElem?_cons_zero,Option.bind_some,h1]
 cases decide (b.1=id)
 ·rfl
 cases decide (b.2.1=c)
 ·rfl
 ·rfl
theorem RN (xs:List eC) (c id:Int) (ms:List (Int×Unit)) (h:jF xs):fC xs [([(id,())],[(c,ms,())],())]=some ((il xs c id).isSome,()):=by
 have Wk:=h.len;obtain ⟨e,he,hq⟩:=dU (round:=dq) (x:=(xs,[([(id,())],[(c,ms,())],())],((List.length xs:Nat):Int),((0:Nat):Int),())) xs.length
  (fun k x=>x=(xs,[([(id,())],[(c,ms,())],())],((List.length xs:Nat):Int),((k:Nat):Int),())∧il xs c id=il (xs.drop k) c id)
  (fun e=>(e=.inl ()∧il xs c id=none)∨(∃j:Nat,e=.inr (((j:Nat):Int),())∧(il xs c id).isSome=true)) (by
   rintro x ⟨rfl,g⟩
   refine ⟨.inl (),by simp only [dq,ax,iq,ax,aJ,cond_false],.inl ⟨rfl,?_⟩⟩;rw [g,List.drop_length];rfl) (by
   rintro k x hk ⟨rfl,g⟩
   rw [JK xs c id hk] at g;have h1:=Zk xs[k] c id ms (h.at hk);simp only [dq,ax,iq,ax,aD hk,au,cond_true,aC,List.getElem?_eq_getElem hk,List.getElem?_cons_zero,Option.bind_some,h1,aH (show k<4611686018427387904 by omega)]
   cases hb:(decide (xs[k].1=id)&&(decide (xs[k].2.1=c)&&qU xs[k]))
   ·rw [hb] at g;exact .inr ⟨_,rfl,rfl,g⟩
   ·rw [hb] at g;exact .inl ⟨_,rfl,.inr ⟨k,rfl,by rw [g];rfl⟩⟩) ⟨rfl,rfl⟩
 have he:aI dq (xs,[([(id,())],[(c,ms,())],())],((List.length xs:Nat):Int),(0:Int),())=some e:=he;unfold fC jq;rw [he];rcases hq with ⟨rfl,q⟩ | ⟨j,rfl,q⟩
 ·rw [q];rfl
 ·rw [q];simp only [Xs,Option.bind_some,au]
theorem E4 (c:Int) (ms:List (Int×Unit)) (xs:List eC) (h0:ms.length≤1048576) (h:jF xs):kS c ms xs=some (ld c ms xs,())∧rX c ms xs=some (ld c ms xs,()):=by
 have Wk:=h.len;have PO:∀ {k:Nat} (hk:k<ms.length),ld c (ms.drop k) xs=((il xs c ms[k].1).isSome&&ld c (ms.drop (k+1)) xs):=fun hk=>by
  unfold ld;rw [List.drop_eq_getElem_cons hk,List.all_cons]
 have fin:∀ {e:Sum Unit (Bool×Unit)} {b:Bool},((e=.inl ()∧b=true)∨(e=.inr (false,())∧b=false))→bU (some e) (fun _=>some (true,())) (fun y=>some (y.1,()))=some (b,()):=by
  rintro e b (⟨rfl,rfl⟩ | ⟨rfl,rfl⟩)
  ·rfl
  ·rfl
 constructor
 ·obtain ⟨e,he,hq⟩:=dU (round:=jm) (x:=(xs,c,ms,((0:Nat):Int),())) ms.length
   (fun k x=>x=(xs,c,ms,((k:Nat):Int),())∧ld c ms xs=ld c (ms.drop k) xs)
   (fun e=>(e=.inl ()∧ld c ms xs=true)∨(e=.inr (false,())∧ld c ms xs=false)) (by
    rintro x ⟨rfl,g⟩
    refine ⟨.inl (),by simp only [jm,ax,mZ,aJ,cond_false],.inl ⟨rfl,?_⟩⟩;rw [g,List.drop_length];rfl) (by
    rintro k x hk ⟨rfl,g⟩
    rw [PO hk] at g;simp only [jm,ax,mZ,aD hk,au,cond_true,aC,List.getElem?_eq_getElem hk,Option.bind_some,sX c ms xs _ h,aH (show k<4611686018427387904 by omega)]
    cases hb:il xs c ms[k].1 with
    |none=>
     rw [hb] at g;exact .inl ⟨_,rfl,.inr ⟨rfl,g⟩⟩
    |some b=>
     rw [hb] at g;exact .inr ⟨_,rfl,rfl,g⟩) ⟨rfl,rfl⟩
  have he:aI jm (xs,c,ms,(0:Int),())=some e:=he;unfold kS;rw [he];exact fin hq
 ·obtain ⟨e,he,hq⟩:=dU (round:=kG) (x:=(xs,[(c,ms,())],ms,((List.length ms:Nat):Int),((0:Nat):Int),())) ms.length
   (fun k x=>x=(xs,[(c,ms,())],ms,((List.length ms:Nat):Int),((k:Nat):Int),())∧ld c ms xs=ld c (ms.drop k) xs)
   (fun e=>(e=.inl ()∧ld c ms xs=true)∨(e=.inr (false,())∧ld c ms xs=false)) (by
    rintro x ⟨rfl,g⟩
    refine ⟨.inl (),by simp only [kG,ax,uF,aJ,cond_false],.inl ⟨rfl,?_⟩⟩;rw [g,List.drop_length];rfl) (by
    rintro k x hk ⟨rfl,g⟩
    rw [PO hk] at g;simp only [kG,ax,uF,aD hk,au,cond_true,aC,List.getElem?_eq_getElem hk,Option.bind_some,RN xs c _ ms h,aH (show k<4611686018427387904 by omega)]
    cases hb:(il xs c ms[k].1).isSome
    ·rw [hb] at g;exact .inl ⟨_,rfl,.inr ⟨rfl,g⟩⟩
    ·rw [hb] at g;exact .inr ⟨_,rfl,rfl,g⟩) ⟨rfl,rfl⟩
  have he:aI kG (xs,[(c,ms,())],ms,((List.length ms:Nat):Int),(0:Int),())=some e:=he;unfold rX;rw [he];exact fin hq
end Go.TM
set_option linter.unusedSimpArgs false
set_option linter.unusedVariables false
namespace Go.TM
open Go
def abp:ia:=(0,0,[],[],[],[],0,0,0,0,0,0,0,0,0,[],())
def To (m:ia) (level:Int) (text:ByteArray):ia:=(m.1,m.2.1,m.2.2.1,m.2.2.2.1,m.2.2.2.2.1++[(level,())],m.q.1++[(text,())],m.q.2)
noncomputable def VS (m:ia) (level:Int) (text:ByteArray):Bool:=uN m&&((decide (1≤level)&&decide (level≤2))&&(decide (ByteArray.size text≤60)&&decide (m.q.1.length<20)))
noncomputable def eS (m:ia) (level:Int) (text:ByteArray):ia×Bool:=bif VS m level text then (To m level text,true) else (abp,false)
theorem Zl (m:ia) (level:Int) (text:ByteArray) (h:mP m≤1048576):Bz m.1 m.2.1 m.2.2.1 m.2.2.2.1 m.2.2.2.2.1 m.q.1 m.q.2.1 m.q.2.2.1 m.q.2.2.2.1 m.q.2.2.2.2.1 m.q.q.1 m.q.q.2.1 m.q.q.2.2.1 m.q.q.2.2.2.1 m.q.q.2.2.2.2.1 m.q.q.q.1 level text=some ((eS m level text).1.1,(eS m level text).1.2.1,(eS m level text).1.2.2.1,(eS m level text).1.2.2.2.1,(eS m level text).1.2.2.2.2.1,(eS m level text).1.q.1,(eS m level text).1.q.2.1,(eS m level text).1.q.2.2.1,(eS m level text).1.q.2.2.2.1,(eS m level text).1.q.2.2.2.2.1,(eS m level text).1.q.q.1,(eS m level text).1.q.q.2.1,(eS m level text).1.q.q.2.2.1,(eS m level text).1.q.q.2.2.2.1,(eS m level text).1.q.q.2.2.2.2.1,(eS m level text).1.q.q.q.1,(eS m level text).2,())∧B6 m.1 m.2.1 m.2.2.1 m.2.2.2.1 m.2.2.2.2.1 m.q.1 m.q.2.1 m.q.2.2.1 m.q.2.2.2.1 m.q.2.2.2.2.1 m.q.q.1 m.q.q.2.1 m.q.q.2.2.1 m.q.q.2.2.2.1 m.q.q.2.2.2.2.1 m.q.q.q.1 level text=some ((eS m level text).1.1,(eS m level text).1.2.1,(eS m level text).1.2.2.1,(eS m level text).1.2.2.2.1,(eS m level text).1.2.2.2.2.1,(eS m level text).1.q.1,(eS m level text).1.q.2.1,(eS m level text).1.q.2.2.1,(eS m level text).1.q.2.2.2.1,(eS m level text).1.q.2.2.2.2.1,(eS m level text).1.q.q.1,(eS m level text).1.q.q.2.1,(eS m level text).1.q.q.2.2.1,(eS m level text).1.q.q.2.2.2.1,(eS m level text).1.q.q.2.2.2.2.1,(eS m level text).1.q.q.q.1,(eS m level text).2,()):=by
 obtain ⟨k1,k2,k3⟩:=uO m h;obtain ⟨p1,p2⟩:=oU m.1 m.2.1 m.2.2.1 m.2.2.2.1 m.2.2.2.2.1 m.q.1 m.q.2.1 m.q.2.2.1 m.q.2.2.2.1 m.q.2.2.2.2.1 m.q.q.1 m.q.q.2.1 m.q.q.2.2.1 m.q.q.2.2.2.1 m.q.q.2.2.2.2.1 m.q.q.q.1 h;unfold Bz B6 eS VS;delta aF dz;simp only [k1,k2,p1,p2,ni,Cb,Option.bind_some]
 cases hb:uN m
 ·cases (decide (1≤level)&&decide (level≤2))
  ·exact ⟨rfl,rfl⟩
  cases decide ((60:Int)<((ByteArray.size text:Nat):Int))
  ·cases decide ((20:Int)≤((List.length m.q.1:Nat):Int))
   ·exact ⟨rfl,rfl⟩
   ·exact ⟨rfl,rfl⟩
  ·exact ⟨rfl,rfl⟩
 have hs:=(k3.1 hb).small;unfold mP at hs
 cases (decide (1≤level)&&decide (level≤2))
 ·exact ⟨rfl,rfl⟩
 by_cases w1:ByteArray.size text≤60
 case neg=>rw [ak w1,aq (show (60:Int)<((ByteArray.size text:Nat):Int) by omega)];exact ⟨rfl,rfl⟩
 by_cases w2:m.q.1.length<20
 case neg=>rw [aq w1,ak w2,ak (show ¬(60:Int)<((ByteArray.size text:Nat):Int) by omega),aq (show (20:Int)≤((List.length m.q.1:Nat):Int) by omega)];exact ⟨rfl,rfl⟩
 rw [aq w1,aq w2,ak (show ¬(60:Int)<((ByteArray.size text:Nat):Int) by omega),ak (show ¬(20:Int)≤((List.length m.q.1:Nat):Int) by omega)];simp only [Bool.not_true,cond_false,aW (show (m.2.2.2.2.1.length+1)*8≤lim by unfold lim;omega),aW (show (m.q.1.length+1)*16≤lim by unfold lim;omega),cond_true,Bool.and_true];exact ⟨rfl,rfl⟩
theorem lB (c:Int) (xs:cG) (h:xs.length≤1048576):bN c xs=some (c,xs,()):=by
 unfold bN;rw [kJ _ h];rfl
end Go.TM
set_option linter.unusedSimpArgs false
set_option linter.unusedVariables false
namespace Go.TM
open Go
theorem jG (b:eC) (h:b.2.2.2.1.length≤1048576):iG b.1 b.2.1 b.2.2.1 b.2.2.2.1=some b∧jo b.1 b.2.1 b.2.2.1 b.2.2.2.1=some b:=by
 constructor
 ·unfold iG;rw [aW (show (0+b.2.2.2.1.length)*40≤lim by unfold lim;omega)];rfl
 ·unfold jo;rw [xD _ h];rfl
theorem Gj (xs:List eC) (h:xs.length+wl fc xs≤1048576):gZ xs=some (xs,()):=by
 have hl:=bP (round:=cX) (e:=.inl (xs,())) xs.length (fun k=>(xs,xs.take k,((k:Nat):Int),())) (by
  simp only [cX,gU,ax,aF,aJ,cond_false,List.take_length]) (fun k hk=>by
  simp only [cX,gU,ax,aF,aD hk,au,cond_true,aC,List.getElem?_eq_getElem hk,Option.bind_some,(jG xs[k] (E1 xs hk h)).1,List.length_take,Nat.min_eq_left (Nat.le_of_lt hk),aW (show (k+1)*48≤lim by unfold lim;omega),aH (show k<4611686018427387904 by omega)];rw [List.take_succ_eq_append_getElem hk])
 have hl:aI cX (xs,[],(0:Int),())=_:=hl;unfold gZ;rw [hl];rfl
theorem Gk (xs:List eC) (h:xs.length+wl fc xs≤1048576):pn xs=some (xs,()):=by
 have hl:=bP (round:=hJ) (e:=.inl (xs,())) xs.length (fun k=>(xs.take k,xs,((xs.length:Nat):Int),((k:Nat):Int),())) (by
  simp only [hJ,ax,pO,ax,aF,aJ,cond_false,List.take_length]) (fun k hk=>by
  simp only [hJ,ax,pO,ax,aF,aD hk,au,cond_true,aC,List.getElem?_eq_getElem hk,Option.bind_some,(jG xs[k] (E1 xs hk h)).2,List.length_take,Nat.min_eq_left (Nat.le_of_lt hk),aW (show (k+1)*48≤lim by unfold lim;omega),aH (show k<4611686018427387904 by omega)];rw [List.take_succ_eq_append_getElem hk])
 have hl:aI hJ ([],xs,((xs.length:Nat):Int),(0:Int),())=_:=hl;unfold pn;rw [hl];rfl
theorem vz (d:bQ) (h:nj d≤1048576):cI d.1 d.2.1 d.2.2.1 d.2.2.2.1 d.2.2.2.2.1 d.q.1 d.q.2.1 d.q.2.2.1 d.q.2.2.2.1 d.q.2.2.2.2.1 d.q.q.1 d.q.q.2.1 d.q.q.2.2.1 d.q.q.2.2.2.1 d.q.q.2.2.2.2.1 d.q.q.q.1 d.q.q.q.2.1 d.q.q.q.2.2.1 d.q.q.q.2.2.2.1 d.q.q.q.2.2.2.2.1 d.q.q.q.q.1 d.q.q.q.q.2.1 d.q.q.q.q.2.2.1 d.q.q.q.q.2.2.2.1=some d∧dP d.1 d.2.1 d.2.2.1 d.2.2.2.1 d.2.2.2.2.1 d.q.1 d.q.2.1 d.q.2.2.1 d.q.2.2.2.1 d.q.2.2.2.2.1 d.q.q.1 d.q.q.2.1 d.q.q.2.2.1 d.q.q.2.2.2.1 d.q.q.2.2.2.2.1 d.q.q.q.1 d.q.q.q.2.1 d.q.q.q.2.2.1 d.q.q.q.2.2.2.1 d.q.q.q.2.2.2.2.1 d.q.q.q.q.1 d.q.q.q.q.2.1 d.q.q.q.q.2.2.1 d.q.q.q.q.2.2.2.1=some d:=by
 have h0:=h;unfold nj at h0;have p:gT d.2.2.1 d.2.2.2.1 d.2.2.2.2.1 d.q.1 d.q.2.1 d.q.2.2.1 d.q.2.2.2.1 d.q.2.2.2.2.1 d.q.q.1 d.q.q.2.1 d.q.q.2.2.1 d.q.q.2.2.2.1 d.q.q.2.2.2.2.1 d.q.q.q.1 d.q.q.q.2.1 d.q.q.q.2.2.1=some (d.2.2.1,d.2.2.2.1,d.2.2.2.2.1,d.q.1,d.q.2.1,d.q.2.2.1,d.q.2.2.2.1,d.q.2.2.2.2.1,d.q.q.1,d.q.q.2.1,d.q.q.2.2.1,d.q.q.2.2.2.1,d.q.q.2.2.2.2.1,d.q.q.q.1,d.q.q.q.2.1,d.q.q.q.2.2.1,())∧gg d.2.2.1 d.2.2.2.1 d.2.2.2.2.1 d.q.1 d.q.2.1 d.q.2.2.1 d.q.2.2.2.1 d.q.2.2.2.2.1 d.q.q.1 d.q.q.2.1 d.q.q.2.2.1 d.q.q.2.2.2.1 d.q.q.2.2.2.2.1 d.q.q.q.1 d.q.q.q.2.1 d.q.q.q.2.2.1=some (d.2.2.1,d.2.2.2.1,d.2.2.2.2.1,d.q.1,d.q.2.1,d.q.2.2.1,d.q.2.2.2.1,d.q.2.2.2.2.1,d.q.q.1,d.q.q.2.1,d.q.q.2.2.1,d.q.q.2.2.2.1,d.q.q.2.2.2.2.1,d.q.q.q.1,d.q.q.q.2.1,d.q.q.q.2.2.1,()):=oU d.2.2.1 d.2.2.2.1 d.2.2.2.2.1 d.q.1 d.q.2.1 d.q.2.2.1 d.q.2.2.2.1 d.q.2.2.2.2.1 d.q.q.1 d.q.q.2.1 d.q.q.2.2.1 d.q.q.2.2.2.1 d.q.q.2.2.2.2.1 d.q.q.q.1 d.q.q.q.2.1 d.q.q.q.2.2.1 (by omega)
 constructor
 ·unfold cI;delta cM;simp only [p.1,Gj d.q.q.q.q.2.2.1 (by omega),AQ d.q.q.q.q.2.2.2.1 (by omega),Option.bind_some,aW (show (0+(d.q.q.q.q.2.1).length)*8≤lim by unfold lim;omega),cond_true,List.nil_append]
 ·unfold dP;delta cM;simp only [p.2,Gk d.q.q.q.q.2.2.1 (by omega),uL d.q.q.q.q.2.2.2.1 (by omega),lB d.q.q.q.q.1 d.q.q.q.q.2.1 (by omega),Option.bind_some]
def E5:bQ:=(0,false,0,0,[],[],[],[],0,0,0,0,0,0,0,0,0,[],0,0,0,[],[],[],())
def acE (d:bQ):bQ:=(d.1,false,d.2.2)
noncomputable def cA (d:bQ):bQ×Bool:=bif kj d&&d.2.1 then (acE d,true) else (E5,false)
theorem Mb (d:bQ) (h:nj d≤1048576):vK d.1 d.2.1 d.2.2.1 d.2.2.2.1 d.2.2.2.2.1 d.q.1 d.q.2.1 d.q.2.2.1 d.q.2.2.2.1 d.q.2.2.2.2.1 d.q.q.1 d.q.q.2.1 d.q.q.2.2.1 d.q.q.2.2.2.1 d.q.q.2.2.2.2.1 d.q.q.q.1 d.q.q.q.2.1 d.q.q.q.2.2.1 d.q.q.q.2.2.2.1 d.q.q.q.2.2.2.2.1 d.q.q.q.q.1 d.q.q.q.q.2.1 d.q.q.q.q.2.2.1 d.q.q.q.q.2.2.2.1=some ((cA d).1.1,(cA d).1.2.1,(cA d).1.2.2.1,(cA d).1.2.2.2.1,(cA d).1.2.2.2.2.1,(cA d).1.q.1,(cA d).1.q.2.1,(cA d).1.q.2.2.1,(cA d).1.q.2.2.2.1,(cA d).1.q.2.2.2.2.1,(cA d).1.q.q.1,(cA d).1.q.q.2.1,(cA d).1.q.q.2.2.1,(cA d).1.q.q.2.2.2.1,(cA d).1.q.q.2.2.2.2.1,(cA d).1.q.q.q.1,(cA d).1.q.q.q.2.1,(cA d).1.q.q.q.2.2.1,(cA d).1.q.q.q.2.2.2.1,(cA d).1.q.q.q.2.2.2.2.1,(cA d).1.q.q.q.q.1,(cA d).1.q.q.q.q.2.1,(cA d).1.q.q.q.q.2.2.1,(cA d).1.q.q.q.q.2.2.2.1,(cA d).2,())∧yB d.1 d.2.1 d.2.2.1 d.2.2.2.1 d.2.2.2.2.1 d.q.1 d.q.2.1 d.q.2.2.1 d.q.2.2.2.1 d.q.2.2.2.2.1 d.q.q.1 d.q.q.2.1 d.q.q.2.2.1 d.q.q.2.2.2.1 d.q.q.2.2.2.2.1 d.q.q.q.1 d.q.q.q.2.1 d.q.q.q.2.2.1 d.q.q.q.2.2.2.1 d.q.q.q.2.2.2.2.1 d.q.q.q.q.1 d.q.q.q.q.2.1 d.q.q.q.q.2.2.1 d.q.q.q.q.2.2.2.1=some ((cA d).1.1,(cA d).1.2.1,(cA d).1.2.2.1,(cA d).1.2.2.2.1,(cA d).1.2.2.2.2.1,(cA d).1.q.1,(cA d).1.q.2.1,(cA d).1.q.2.2.1,(cA d).1.q.2.2.2.1,(cA d).1.q.2.2.2.2.1,(cA d).1.q.q.1,(cA d).1.q.q.2.1,(cA d).1.q.q.2.2.1,(cA d).1.q.q.2.2.2.1,(cA d).1.q.q.2.2.2.2.1,(cA d).1.q.q.q.1,(cA d).1.q.q.q.2.1,(cA d).1.q.q.q.2.2.1,(cA d).1.q.q.q.2.2.2.1,(cA d).1.q.q.q.2.2.2.2.1,(cA d).1.q.q.q.q.1,(cA d).1.q.q.q.q.2.1,(cA d).1.q.q.q.q.2.2.1,(cA d).1.q.q.q.q.2.2.2.1,(cA d).2,()):=by
 obtain ⟨k1,k2,_⟩:=pR d h;obtain ⟨p1,p2⟩:=vz d h;unfold vK yB cA;delta cM bF;simp only [k1,k2,p1,p2,Option.bind_some]
 cases kj d<;>cases hd:d.2.1
 ·exact ⟨rfl,rfl⟩
 ·exact ⟨rfl,rfl⟩
 ·exact ⟨rfl,rfl⟩
 ·exact ⟨rfl,rfl⟩
def bE (d:bQ) (m:ia):bQ:=(d.1,d.2.1,m.1,m.2.1,m.2.2.1,m.2.2.2.1,m.2.2.2.2.1,m.q.1,m.q.2.1,m.q.2.2.1,m.q.2.2.2.1,m.q.2.2.2.2.1,m.q.q.1,m.q.q.2.1,m.q.q.2.2.1,m.q.q.2.2.2.1,m.q.q.2.2.2.2.1,m.q.q.q.1,d.q.q.q.2.2.2.1,d.q.q.q.2.2.2.2.1,d.q.q.q.q.1,d.q.q.q.q.2.1,d.q.q.q.q.2.2.1,d.q.q.q.q.2.2.2.1,())
noncomputable def bR (d:bQ) (level:Int) (text:ByteArray):bQ×Bool:=
 bif kj d&&(!d.2.1&&(!decide (d.q.q.q.2.2.2.2.1=0)&&(eS (az d) level text).2)) then (bE d (eS (az d) level text).1,true) else (E5,false)
theorem Zm (d:bQ):mP (az d)≤nj d:=by
 unfold nj;show (List.length d.2.2.2.2.1+wl kY d.2.2.2.2.1)+(List.length d.q.1+wl ec d.q.1)+(List.length d.q.2.1+wl kY d.q.2.1)+(List.length d.q.2.2.1+wl KM d.q.2.2.1)+(List.length d.q.q.q.2.2.1+wl kY d.q.q.q.2.2.1)≤_;omega
theorem Cd (d:bQ) (level:Int) (text:ByteArray) (h:nj d≤1048576):rF d.1 d.2.1 d.2.2.1 d.2.2.2.1 d.2.2.2.2.1 d.q.1 d.q.2.1 d.q.2.2.1 d.q.2.2.2.1 d.q.2.2.2.2.1 d.q.q.1 d.q.q.2.1 d.q.q.2.2.1 d.q.q.2.2.2.1 d.q.q.2.2.2.2.1 d.q.q.q.1 d.q.q.q.2.1 d.q.q.q.2.2.1 d.q.q.q.2.2.2.1 d.q.q.q.2.2.2.2.1 d.q.q.q.q.1 d.q.q.q.q.2.1 d.q.q.q.q.2.2.1 d.q.q.q.q.2.2.2.1 level text=some ((bR d level text).1.1,(bR d level text).1.2.1,(bR d level text).1.2.2.1,(bR d level text).1.2.2.2.1,(bR d level text).1.2.2.2.2.1,(bR d level text).1.q.1,(bR d level text).1.q.2.1,(bR d level text).1.q.2.2.1,(bR d level text).1.q.2.2.2.1,(bR d level text).1.q.2.2.2.2.1,(bR d level text).1.q.q.1,(bR d level text).1.q.q.2.1,(bR d level text).1.q.q.2.2.1,(bR d level text).1.q.q.2.2.2.1,(bR d level text).1.q.q.2.2.2.2.1,(bR d level text).1.q.q.q.1,(bR d level text).1.q.q.q.2.1,(bR d level text).1.q.q.q.2.2.1,(bR d level text).1.q.q.q.2.2.2.1,(bR d level text).1.q.q.q.2.2.2.2.1,(bR d level text).1.q.q.q.q.1,(bR d level text).1.q.q.q.q.2.1,(bR d level text).1.q.q.q.q.2.2.1,(bR d level text).1.q.q.q.q.2.2.2.1,(bR d level text).2,())∧oQ d.1 d.2.1 d.2.2.1 d.2.2.2.1 d.2.2.2.2.1 d.q.1 d.q.2.1 d.q.2.2.1 d.q.2.2.2.1 d.q.2.2.2.2.1 d.q.q.1 d.q.q.2.1 d.q.q.2.2.1 d.q.q.2.2.2.1 d.q.q.2.2.2.2.1 d.q.q.q.1 d.q.q.q.2.1 d.q.q.q.2.2.1 d.q.q.q.2.2.2.1 d.q.q.q.2.2.2.2.1 d.q.q.q.q.1 d.q.q.q.q.2.1 d.q.q.q.q.2.2.1 d.q.q.q.q.2.2.2.1 level text=some ((bR d level text).1.1,(bR d level text).1.2.1,(bR d level text).1.2.2.1,(bR d level text).1.2.2.2.1,(bR d level text).1.2.2.2.2.1,(bR d level text).1.q.1,(bR d level text).1.q.2.1,(bR d level text).1.q.2.2.1,(bR d level text).1.q.2.2.2.1,(bR d level text).1.q.2.2.2.2.1,(bR d level text).1.q.q.1,(bR d level text).1.q.q.2.1,(bR d level text).1.q.q.2.2.1,(bR d level text).1.q.q.2.2.2.1,(bR d level text).1.q.q.2.2.2.2.1,(bR d level text).1.q.q.q.1,(bR d level text).1.q.q.q.2.1,(bR d level text).1.q.q.q.2.2.1,(bR d level text).1.q.q.q.2.2.2.1,(bR d level text).1.q.q.q.2.2.2.2.1,(bR d level text).1.q.q.q.q.1,(bR d level text).1.q.q.q.q.2.1,(bR d level text).1.q.q.q.q.2.2.1,(bR d level text).1.q.q.q.q.2.2.2.1,(bR d level text).2,()):=by
 obtain ⟨k1,k2,_⟩:=pR d h;obtain ⟨p1,p2⟩:=vz d h;have s:Bz d.2.2.1 d.2.2.2.1 d.2.2.2.2.1 d.q.1 d.q.2.1 d.q.2.2.1 d.q.2.2.2.1 d.q.2.2.2.2.1 d.q.q.1 d.q.q.2.1 d.q.q.2.2.1 d.q.q.2.2.2.1 d.q.q.2.2.2.2.1 d.q.q.q.1 d.q.q.q.2.1 d.q.q.q.2.2.1 level text=some ((eS (az d) level text).1.1,(eS (az d) level text).1.2.1,(eS (az d) level text).1.2.2.1,(eS (az d) level text).1.2.2.2.1,(eS (az d) level text).1.2.2.2.2.1,(eS (az d) level text).1.q.1,(eS (az d) level text).1.q.2.1,(eS (az d) level text).1.q.2.2.1,(eS (az d) level text).1.q.2.2.2.1,(eS (az d) level text).1.q.2.2.2.2.1,(eS (az d) level text).1.q.q.1,(eS (az d) level text).1.q.q.2.1,(eS (az d) level text).1.q.q.2.2.1,(eS (az d) level text).1.q.q.2.2.2.1,(eS (az d) level text).1.q.q.2.2.2.2.1,(eS (az d) level text).1.q.q.q.1,(eS (az d) level text).2,())∧B6 d.2.2.1 d.2.2.2.1 d.2.2.2.2.1 d.q.1 d.q.2.1 d.q.2.2.1 d.q.2.2.2.1 d.q.2.2.2.2.1 d.q.q.1 d.q.q.2.1 d.q.q.2.2.1 d.q.q.2.2.2.1 d.q.q.2.2.2.2.1 d.q.q.q.1 d.q.q.q.2.1 d.q.q.q.2.2.1 level text=some ((eS (az d) level text).1.1,(eS (az d) level text).1.2.1,(eS (az d) level text).1.2.2.1,(eS (az d) level text).1.2.2.2.1,(eS (az d) level text).1.2.2.2.2.1,(eS (az d) level text).1.q.1,(eS (az d) level text).1.q.2.1,(eS (az d) level text).1.q.2.2.1,(eS (az d) level text).1.q.2.2.2.1,(eS (az d) level text).1.q.2.2.2.2.1,(eS (az d) level text).1.q.q.1,(eS (az d) level text).1.q.q.2.1,(eS (az d) level text).1.q.q.2.2.1,(eS (az d) level text).1.q.q.2.2.2.1,(eS (az d) level text).1.q.q.2.2.2.2.1,(eS (az d) level text).1.q.q.q.1,(eS (az d) level text).2,()):=Zl (az d) level text (Nat.le_trans (Zm d) h);unfold rF oQ bR bE;delta cM bF;simp only [k1,k2,p1,p2,s.1,s.2,Option.bind_some];generalize eS (az d) level text=q;obtain ⟨m',b⟩:=q
 cases kj d
 ·cases d.2.1
  ·cases decide (d.q.q.q.2.2.2.2.1=0)
   ·exact ⟨rfl,rfl⟩
   ·exact ⟨rfl,rfl⟩
  ·exact ⟨rfl,rfl⟩
 ·cases d.2.1
  ·cases decide (d.q.q.q.2.2.2.2.1=0)
   ·cases b
    ·exact ⟨rfl,rfl⟩
    ·exact ⟨rfl,rfl⟩
   ·exact ⟨rfl,rfl⟩
  ·exact ⟨rfl,rfl⟩
end Go.TM
set_option linter.unusedSimpArgs false
set_option linter.unusedVariables false
namespace Go.TM
open Go
theorem Zn (d:bQ):gb d.q.q.q.q.1 d.q.q.q.q.2.1=some ((decide (d.q.q.q.q.1=0)&&decide (((List.length d.q.q.q.q.2.1:Nat):Int)=0)),()):=(vP _ _).1
theorem vQ (d:bQ) (h:nj d≤1048576):eU d.1 d.2.1 d.2.2.1 d.2.2.2.1 d.2.2.2.2.1 d.q.1 d.q.2.1 d.q.2.2.1 d.q.2.2.2.1 d.q.2.2.2.2.1 d.q.q.1 d.q.q.2.1 d.q.q.2.2.1 d.q.q.2.2.2.1 d.q.q.2.2.2.2.1 d.q.q.q.1 d.q.q.q.2.1 d.q.q.q.2.2.1 d.q.q.q.2.2.2.1 d.q.q.q.2.2.2.2.1 d.q.q.q.q.1 d.q.q.q.q.2.1 d.q.q.q.q.2.2.1 d.q.q.q.q.2.2.2.1=some ((kj d&&(!d.2.1&&(decide (0<d.q.q.q.2.2.2.2.1)&&decide (d.q.q.q.q.1=0)))),()):=by
 obtain ⟨k1,_,k3⟩:=pR d h;unfold eU;simp only [k1,Zn,Option.bind_some]
 cases hb:kj d
 ·rfl
 have q:=k3.1 hb
 cases hd:d.2.1
 ·by_cases ho:0<d.q.q.q.2.2.2.2.1
  ·rw [aq ho];rcases q.nX with j | j
   ·rw [j.1,j.2.1];rfl
   ·have:¬d.q.q.q.q.1=0:=by have:=j.1.1.1;omega
    rw [ak this];rfl
  ·rw [ak ho];rfl
 ·rfl
theorem G1 (c:Int) (xs:cG) (h:xs.length≤1048576) (hr:oV c xs):qi c xs=some (c,1,0,0,0,[],())∧ql c xs=some (c,1,0,0,0,[],()):=by
 obtain ⟨k1,k2,k3⟩:=qo c xs h;unfold qi ql;rw [k1,k2,k3.2 hr];exact ⟨rfl,rfl⟩
theorem vA (d:bQ) (h:nj d≤1048576):∃(t:gN) (b:Bool),iO d.1 d.2.1 d.2.2.1 d.2.2.2.1 d.2.2.2.2.1 d.q.1 d.q.2.1 d.q.2.2.1 d.q.2.2.2.1 d.q.2.2.2.2.1 d.q.q.1 d.q.q.2.1 d.q.q.2.2.1 d.q.q.2.2.2.1 d.q.q.2.2.2.2.1 d.q.q.q.1 d.q.q.q.2.1 d.q.q.q.2.2.1 d.q.q.q.2.2.2.1 d.q.q.q.2.2.2.2.1 d.q.q.q.q.1 d.q.q.q.q.2.1 d.q.q.q.q.2.2.1 d.q.q.q.q.2.2.2.1=some (t.1,t.2.1,t.2.2.1,t.2.2.2.1,t.2.2.2.2.1,t.q.1,b,())∧mN d.1 d.2.1 d.2.2.1 d.2.2.2.1 d.2.2.2.2.1 d.q.1 d.q.2.1 d.q.2.2.1 d.q.2.2.2.1 d.q.2.2.2.2.1 d.q.q.1 d.q.q.2.1 d.q.q.2.2.1 d.q.q.2.2.2.1 d.q.q.2.2.2.2.1 d.q.q.q.1 d.q.q.q.2.1 d.q.q.q.2.2.1 d.q.q.q.2.2.2.1 d.q.q.q.2.2.2.2.1 d.q.q.q.q.1 d.q.q.q.q.2.1 d.q.q.q.q.2.2.1 d.q.q.q.q.2.2.2.1=some (t.1,t.2.1,t.2.2.1,t.2.2.2.1,t.2.2.2.2.1,t.q.1,b,())∧t.q.1=[]:=by
 obtain ⟨k1,k2,k3⟩:=pR d h;have hi:=vQ d h;unfold iO mN;delta bF;simp only [hi,k2,Option.bind_some];have zero:(∃(t:gN) (b:Bool),some ((0:Int),(0:Int),(0:Int),(0:Int),(0:Int),([]:cG),false,())=some (t.1,t.2.1,t.2.2.1,t.2.2.2.1,t.2.2.2.2.1,t.q.1,b,())∧some ((0:Int),(0:Int),(0:Int),(0:Int),(0:Int),([]:cG),false,())=some (t.1,t.2.1,t.2.2.1,t.2.2.2.1,t.2.2.2.2.1,t.q.1,b,())∧t.q.1=[]):=⟨(0,0,0,0,0,[],()),false,rfl,rfl,rfl⟩
 cases hd:d.2.1
 case true=>
  cases kj d<;>exact zero
 by_cases ho:0<d.q.q.q.2.2.2.2.1
 case neg=>
  rw [ak ho,aq (show d.q.q.q.2.2.2.2.1≤0 by omega)]
  cases kj d<;>exact zero
 rw [aq ho,ak (show ¬d.q.q.q.2.2.2.2.1≤0 by omega)]
 by_cases hj:d.q.q.q.q.1=0
 case neg=>
  rw [ak hj]
  cases kj d<;>exact zero
 rw [aq hj]
 cases hb:kj d
 ·cases decide (d.q.2.2.2.1=0)
  ·exact zero
  ·exact zero
 have q:=k3.1 hb;have hm:ra (az d):=by
  rcases q.uP with m | m
  ·have h1:d.2.2.2.1=0:=m.2.1;have h2:=q.old.1;omega
  ·exact m.1
 have hr:oV d.2.2.2.1 d.2.2.2.2.1:=hm.ring;unfold nj at h;obtain ⟨f1,f2⟩:=G1 d.2.2.2.1 d.2.2.2.2.1 (by omega) hr;have hl:0<(d.2.2.2.2.1).length:=by have:=hr.2.1;omega
 have mn:¬((List.length d.2.2.2.2.1:Nat):Int)=0:=by omega
 rw [f1,f2,List.getElem?_eq_getElem hl,ak mn];simp only [Option.bind_some,Bool.not_true,Bool.not_false,Bool.and_true,cond_true,cond_false]
 by_cases h8:d.q.2.2.2.1=0
 ·rw [aq h8]
  by_cases h0:((d.2.2.2.2.1)[0]).1=d.1
  ·rw [aq h0];exact ⟨(d.2.2.2.1,1,0,0,0,[],()),true,rfl,rfl,rfl⟩
  ·rw [ak h0];exact zero
 ·rw [ak h8]
  by_cases h0:((d.2.2.2.2.1)[0]).1=d.1
  ·rw [aq h0];exact zero
  ·rw [ak h0];exact zero
end Go.TM
set_option linter.unusedSimpArgs false
set_option linter.unusedVariables false
namespace Go.TM
open Go
def Au (xs:aZ) (s:Int):ez:=((rZ (fH xs s)).1,(rZ (fH xs s)).2.1,(rZ (fH xs s)).2.2.1,(rZ (fH xs s)).2.2.2.1,())
def iJ (xs:aZ) (h:Int) (k:Nat):aZ:=(List.range k).map fun j=>Au xs (h+((j+1:Nat):Int))
theorem Av (xs:aZ) (h:Int) (k:Nat):(iJ xs h k).length=k:=by simp [iJ]
theorem xF (xs:aZ) (h:Int) (k:Nat):iJ xs h (k+1)=iJ xs h k++[Au xs (h+((k+1:Nat):Int))]:=by
 unfold iJ;rw [List.range_succ,List.map_append];rfl
theorem Nw {xs:aZ} {s:Int} (h:fx xs xs.length):ByteArray.size (Au xs s).2.2.2.1≤60:=by
 show ByteArray.size (rZ (fH xs s)).2.2.2.1≤60
 cases e:fH xs s with
 |none=>exact Nat.zero_le _
 |some r=>
  obtain ⟨k,hk,rfl⟩:=List.mem_iff_getElem.1 (DW e).1;exact (h k hk hk).1.2.2.2
theorem PQ {xs:aZ} {h:Int} {k:Nat} (hi:fx xs xs.length):wl ec (iJ xs h k)≤60*k:=by
 have:=Tn ec 60 (iJ xs h k) (fun x hx=>by
  unfold iJ at hx;obtain ⟨j,_,rfl⟩:=List.mem_map.1 hx;exact Nw hi)
 rwa [Av] at this
def Ce (xs:aZ) (line s:Int):Prop:=(Au xs s).2.2.1=2∧line<(Au xs s).1
theorem PR (m:ia) (h0:mP m≤1048576):∃(k:Nat) (v:Int),ph m.1 m.2.1 m.2.2.1 m.2.2.2.1 m.2.2.2.2.1 m.q.1 m.q.2.1 m.q.2.2.1 m.q.2.2.2.1 m.q.2.2.2.2.1 m.q.q.1 m.q.q.2.1 m.q.q.2.2.1 m.q.q.2.2.2.1 m.q.q.2.2.2.2.1 m.q.q.q.1=some (m.1,m.2.1,m.2.2.1,m.2.2.2.1,m.2.2.2.2.1,m.q.1,m.q.2.1,m.q.2.2.1,m.q.2.2.2.1,v,m.q.q.1,m.q.q.2.1,m.q.q.2.2.1,m.q.q.2.2.2.1,m.q.q.2.2.2.2.1,m.q.q.q.1,iJ m.2.2.2.1 m.q.2.2.2.2.1 k,())∧qS m.1 m.2.1 m.2.2.1 m.2.2.2.1 m.2.2.2.2.1 m.q.1 m.q.2.1 m.q.2.2.1 m.q.2.2.2.1 m.q.2.2.2.2.1 m.q.q.1 m.q.q.2.1 m.q.q.2.2.1 m.q.q.2.2.2.1 m.q.q.2.2.2.2.1 m.q.q.q.1=some (m.1,m.2.1,m.2.2.1,m.2.2.2.1,m.2.2.2.2.1,m.q.1,m.q.2.1,m.q.2.2.1,m.q.2.2.2.1,v,m.q.q.1,m.q.q.2.1,m.q.q.2.2.1,m.q.q.2.2.2.1,m.q.q.2.2.2.2.1,m.q.q.q.1,iJ m.2.2.2.1 m.q.2.2.2.2.1 k,())∧v=m.q.2.2.2.2.1+((k:Nat):Int)∧
  (uN m=false→k=0)∧(uN m=true→v≤((dJ m.2.2.2.1:Nat):Int)∧(∀j,j<k→¬Ce m.2.2.2.1 m.q.2.2.2.1 (m.q.2.2.2.2.1+((j+1:Nat):Int)))∧(v<((dJ m.2.2.2.1:Nat):Int)→Ce m.2.2.2.1 m.q.2.2.2.1 (m.q.2.2.2.2.1+((k+1:Nat):Int)))):=by
 obtain ⟨k1,k2,k3⟩:=uO m h0;obtain ⟨p1,p2⟩:=oU m.1 m.2.1 m.2.2.1 m.2.2.2.1 m.2.2.2.2.1 m.q.1 m.q.2.1 m.q.2.2.1 m.q.2.2.2.1 m.q.2.2.2.2.1 m.q.q.1 m.q.q.2.1 m.q.q.2.2.1 m.q.q.2.2.2.1 m.q.q.2.2.2.2.1 m.q.q.q.1 h0;unfold ph qS;delta cM;simp only [k1,k2,p1,p2,Option.bind_some]
 cases hb:uN m
 ·exact ⟨0,m.q.2.2.2.2.1,rfl,rfl,by omega,(fun _=>rfl),(fun h=>by cases h)⟩
 have hm:=k3.1 hb;have Wt:=di m.2.2.2.1 hm.items;have hl:m.2.2.2.1.length≤1048576:=by omega
 obtain ⟨a1,a2,a3⟩:=Am m.2.2.2.1 hl;have hh:=hm.heard;generalize hn:dJ m.2.2.2.1=n at a1 a2 a3 hh;have azR:n≤60:=Nat.le_trans a3.1 Wt.1;obtain ⟨e,f,g1,g2,k,v,g3,g4,g5,g6,g7,g8⟩:∃e f,aI rO (m.1,m.2.1,m.2.2.1,m.2.2.2.1,m.2.2.2.2.1,m.q.1,m.q.2.1,m.q.2.2.1,m.q.2.2.2.1,m.q.2.2.2.2.1,m.q.q.1,m.q.q.2.1,m.q.q.2.2.1,m.q.q.2.2.2.1,m.q.q.2.2.2.2.1,m.q.q.q.1,(0:Int),(0:Int),[],[],[],[],(0:Int),(0:Int),(0:Int),(0:Int),(0:Int),(0:Int),(0:Int),(0:Int),(0:Int),[],m.1,m.2.1,m.2.2.1,m.2.2.2.1,m.2.2.2.2.1,m.q.1,m.q.2.1,m.q.2.2.1,m.q.2.2.2.1,m.q.2.2.2.2.1,m.q.q.1,m.q.q.2.1,m.q.q.2.2.1,m.q.q.2.2.2.1,m.q.q.2.2.2.2.1,m.q.q.q.1,[],((n:Nat):Int),())=some e∧aI rV (m.1,m.2.1,m.2.2.1,m.2.2.2.1,m.2.2.2.2.1,m.q.1,m.q.2.1,m.q.2.2.1,m.q.2.2.2.1,m.q.2.2.2.2.1,m.q.q.1,m.q.q.2.1,m.q.q.2.2.1,m.q.q.2.2.2.1,m.q.q.2.2.2.2.1,m.q.q.q.1,(0:Int),(0:Int),[],[],[],[],(0:Int),(0:Int),(0:Int),(0:Int),(0:Int),(0:Int),(0:Int),(0:Int),(0:Int),[],m.1,m.2.1,m.2.2.1,m.2.2.2.1,m.2.2.2.2.1,m.q.1,m.q.2.1,m.q.2.2.1,m.q.2.2.2.1,m.q.2.2.2.2.1,m.q.q.1,m.q.q.2.1,m.q.q.2.2.1,m.q.q.2.2.2.1,m.q.q.2.2.2.2.1,m.q.q.q.1,[],())=some f∧
   ∃(k:Nat) (v:Int),(e=.inl ((0:Int),(0:Int),[],[],[],[],(0:Int),(0:Int),(0:Int),(0:Int),(0:Int),(0:Int),(0:Int),(0:Int),(0:Int),[],m.1,m.2.1,m.2.2.1,m.2.2.2.1,m.2.2.2.2.1,m.q.1,m.q.2.1,m.q.2.2.1,m.q.2.2.2.1,v,m.q.q.1,m.q.q.2.1,m.q.q.2.2.1,m.q.q.2.2.2.1,m.q.q.2.2.2.2.1,m.q.q.q.1,iJ m.2.2.2.1 m.q.2.2.2.2.1 k,())∨e=.inr (m.1,m.2.1,m.2.2.1,m.2.2.2.1,m.2.2.2.2.1,m.q.1,m.q.2.1,m.q.2.2.1,m.q.2.2.2.1,v,m.q.q.1,m.q.q.2.1,m.q.q.2.2.1,m.q.q.2.2.2.1,m.q.q.2.2.2.2.1,m.q.q.q.1,iJ m.2.2.2.1 m.q.2.2.2.2.1 k,()))∧f=.inl ((0:Int),(0:Int),[],[],[],[],(0:Int),(0:Int),(0:Int),(0:Int),(0:Int),(0:Int),(0:Int),(0:Int),(0:Int),[],m.1,m.2.1,m.2.2.1,m.2.2.2.1,m.2.2.2.2.1,m.q.1,m.q.2.1,m.q.2.2.1,m.q.2.2.2.1,v,m.q.q.1,m.q.q.2.1,m.q.q.2.2.1,m.q.q.2.2.2.1,m.q.q.2.2.2.2.1,m.q.q.q.1,iJ m.2.2.2.1 m.q.2.2.2.2.1 k,())∧v=m.q.2.2.2.2.1+((k:Nat):Int)∧v≤((n:Nat):Int)∧
    (∀j,j<k→¬Ce m.2.2.2.1 m.q.2.2.2.1 (m.q.2.2.2.2.1+((j+1:Nat):Int)))∧(v<((n:Nat):Int)→Ce m.2.2.2.1 m.q.2.2.2.1 (m.q.2.2.2.2.1+((k+1:Nat):Int))):=by
  refine oB 60 (fun k x y=>∃v:Int,x=(m.1,m.2.1,m.2.2.1,m.2.2.2.1,m.2.2.2.2.1,m.q.1,m.q.2.1,m.q.2.2.1,m.q.2.2.2.1,m.q.2.2.2.2.1,m.q.q.1,m.q.q.2.1,m.q.q.2.2.1,m.q.q.2.2.2.1,m.q.q.2.2.2.2.1,m.q.q.q.1,(0:Int),(0:Int),[],[],[],[],(0:Int),(0:Int),(0:Int),(0:Int),(0:Int),(0:Int),(0:Int),(0:Int),(0:Int),[],m.1,m.2.1,m.2.2.1,m.2.2.2.1,m.2.2.2.2.1,m.q.1,m.q.2.1,m.q.2.2.1,m.q.2.2.2.1,v,m.q.q.1,m.q.q.2.1,m.q.q.2.2.1,m.q.q.2.2.2.1,m.q.q.2.2.2.2.1,m.q.q.q.1,iJ m.2.2.2.1 m.q.2.2.2.2.1 k,((n:Nat):Int),())∧y=(m.1,m.2.1,m.2.2.1,m.2.2.2.1,m.2.2.2.2.1,m.q.1,m.q.2.1,m.q.2.2.1,m.q.2.2.2.1,m.q.2.2.2.2.1,m.q.q.1,m.q.q.2.1,m.q.q.2.2.1,m.q.q.2.2.2.1,m.q.q.2.2.2.2.1,m.q.q.q.1,(0:Int),(0:Int),[],[],[],[],(0:Int),(0:Int),(0:Int),(0:Int),(0:Int),(0:Int),(0:Int),(0:Int),(0:Int),[],m.1,m.2.1,m.2.2.1,m.2.2.2.1,m.2.2.2.2.1,m.q.1,m.q.2.1,m.q.2.2.1,m.q.2.2.2.1,v,m.q.q.1,m.q.q.2.1,m.q.q.2.2.1,m.q.q.2.2.2.1,m.q.q.2.2.2.2.1,m.q.q.q.1,iJ m.2.2.2.1 m.q.2.2.2.2.1 k,())∧v=m.q.2.2.2.2.1+((k:Nat):Int)∧v≤((n:Nat):Int)∧∀j,j<k→¬Ce m.2.2.2.1 m.q.2.2.2.1 (m.q.2.2.2.2.1+((j+1:Nat):Int))) _ ?_ ⟨m.q.2.2.2.2.1,rfl,rfl,by omega,hh.2,fun j h=>by omega⟩
  rintro k x y hk ⟨v,rfl,rfl,q1,q2,q3⟩
  by_cases dB:v<((n:Nat):Int)
  ·have hw:IntKind.i64.wrap (v+(1:Int))=m.q.2.2.2.2.1+((k+1:Nat):Int):=by rw [fj]<;>omega
   have hbl:Nat.ble (((iJ m.2.2.2.1 m.q.2.2.2.2.1 k).length+1)*40) lim=true:=aW (by rw [Av];unfold lim;omega);have more:¬Ce m.2.2.2.1 m.q.2.2.2.1 (m.q.2.2.2.2.1+((k+1:Nat):Int))→∀j,j<k+1→¬Ce m.2.2.2.1 m.q.2.2.2.1 (m.q.2.2.2.2.1+((j+1:Nat):Int)):=fun hnw j hj=>by
    by_cases e:j<k
    ·exact q3 j e
    ·have:j=k:=by omega
     subst this;exact hnw
   simp only [rO,aA,zp,aF,rV,aA,z7,aF,aq dB,a2,hw,xB m.2.2.2.1 _ hl,xC m.2.2.2.1 _ hl,Option.bind_some,cond_true,hbl]
   by_cases c1:(rZ (fH m.2.2.2.1 (m.q.2.2.2.2.1+((k+1:Nat):Int)))).2.2.1=2
   ·rw [aq c1]
    by_cases c2:m.q.2.2.2.1<(rZ (fH m.2.2.2.1 (m.q.2.2.2.2.1+((k+1:Nat):Int)))).1
    ·rw [aq c2];exact .inl ⟨_,_,rfl,rfl,k,v,.inr rfl,rfl,q1,q2,q3,fun _=>⟨c1,c2⟩⟩
    ·rw [ak c2];exact .inr ⟨by omega,_,_,rfl,rfl,m.q.2.2.2.2.1+((k+1:Nat):Int),by rw [xF];rfl,by rw [xF];rfl,rfl,by omega,more fun h=>c2 h.2⟩
   ·rw [ak c1];exact .inr ⟨by omega,_,_,rfl,rfl,m.q.2.2.2.2.1+((k+1:Nat):Int),by rw [xF];rfl,by rw [xF];rfl,rfl,by omega,more fun h=>c1 h.1⟩
  ·simp only [rO,aA,zp,aF,rV,aA,z7,aF,ak dB,a2,Option.bind_some,cond_false];exact .inl ⟨_,_,rfl,rfl,k,v,.inl rfl,rfl,q1,q2,q3,fun h=>absurd h dB⟩
 simp only [a1,Option.bind_some,Bool.not_true,cond_false];rw [g1,g2,g4];refine ⟨k,v,?_,rfl,g5,(fun h=>by cases h),(fun _=>⟨by first | exact g6 | (rw [hn];exact g6),g7,fun h=>g8 (by first | exact h | (rw [hn] at h;exact h))⟩)⟩;rcases g3 with rfl | rfl
 ·rfl
 ·rfl
end Go.TM
set_option linter.unusedSimpArgs false
set_option linter.unusedVariables false
namespace Go.TM
open Go
noncomputable def cB (m:ia):ia×aZ:=match ph m.1 m.2.1 m.2.2.1 m.2.2.2.1 m.2.2.2.2.1 m.q.1 m.q.2.1 m.q.2.2.1 m.q.2.2.2.1 m.q.2.2.2.2.1 m.q.q.1 m.q.q.2.1 m.q.q.2.2.1 m.q.q.2.2.2.1 m.q.q.2.2.2.2.1 m.q.q.q.1 with
 |some x=>((x.1,x.2.1,x.2.2.1,x.2.2.2.1,x.2.2.2.2.1,x.q.1,x.q.2.1,x.q.2.2.1,x.q.2.2.2.1,x.q.2.2.2.2.1,x.q.q.1,x.q.q.2.1,x.q.q.2.2.1,x.q.q.2.2.2.1,x.q.q.2.2.2.2.1,x.q.q.q.1,()),x.q.q.q.2.1)
 |none=>(m,[])
theorem Tp (m:ia) (h0:mP m≤1048576):∃(k:Nat) (v:Int),cB m=((m.1,m.2.1,m.2.2.1,m.2.2.2.1,m.2.2.2.2.1,m.q.1,m.q.2.1,m.q.2.2.1,m.q.2.2.2.1,v,m.q.q.1,m.q.q.2.1,m.q.q.2.2.1,m.q.q.2.2.2.1,m.q.q.2.2.2.2.1,m.q.q.q.1,()),iJ m.2.2.2.1 m.q.2.2.2.2.1 k)∧ph m.1 m.2.1 m.2.2.1 m.2.2.2.1 m.2.2.2.2.1 m.q.1 m.q.2.1 m.q.2.2.1 m.q.2.2.2.1 m.q.2.2.2.2.1 m.q.q.1 m.q.q.2.1 m.q.q.2.2.1 m.q.q.2.2.2.1 m.q.q.2.2.2.2.1 m.q.q.q.1=some (m.1,m.2.1,m.2.2.1,m.2.2.2.1,m.2.2.2.2.1,m.q.1,m.q.2.1,m.q.2.2.1,m.q.2.2.2.1,v,m.q.q.1,m.q.q.2.1,m.q.q.2.2.1,m.q.q.2.2.2.1,m.q.q.2.2.2.2.1,m.q.q.q.1,iJ m.2.2.2.1 m.q.2.2.2.2.1 k,())∧qS m.1 m.2.1 m.2.2.1 m.2.2.2.1 m.2.2.2.2.1 m.q.1 m.q.2.1 m.q.2.2.1 m.q.2.2.2.1 m.q.2.2.2.2.1 m.q.q.1 m.q.q.2.1 m.q.q.2.2.1 m.q.q.2.2.2.1 m.q.q.2.2.2.2.1 m.q.q.q.1=some (m.1,m.2.1,m.2.2.1,m.2.2.2.1,m.2.2.2.2.1,m.q.1,m.q.2.1,m.q.2.2.1,m.q.2.2.2.1,v,m.q.q.1,m.q.q.2.1,m.q.q.2.2.1,m.q.q.2.2.2.1,m.q.q.2.2.2.2.1,m.q.q.q.1,iJ m.2.2.2.1 m.q.2.2.2.2.1 k,())∧v=m.q.2.2.2.2.1+((k:Nat):Int)∧
  (uN m=false→k=0)∧(uN m=true→v≤((dJ m.2.2.2.1:Nat):Int)∧(∀j,j<k→¬Ce m.2.2.2.1 m.q.2.2.2.1 (m.q.2.2.2.2.1+((j+1:Nat):Int)))∧(v<((dJ m.2.2.2.1:Nat):Int)→Ce m.2.2.2.1 m.q.2.2.2.1 (m.q.2.2.2.2.1+((k+1:Nat):Int)))):=by
 obtain ⟨k,v,h1,h2,h3⟩:=PR m h0;exact ⟨k,v,by unfold cB;rw [h1],h1,h2,h3⟩
theorem VT (m:ia) (h0:mP m≤1048576):ph m.1 m.2.1 m.2.2.1 m.2.2.2.1 m.2.2.2.2.1 m.q.1 m.q.2.1 m.q.2.2.1 m.q.2.2.2.1 m.q.2.2.2.2.1 m.q.q.1 m.q.q.2.1 m.q.q.2.2.1 m.q.q.2.2.2.1 m.q.q.2.2.2.2.1 m.q.q.q.1=some ((cB m).1.1,(cB m).1.2.1,(cB m).1.2.2.1,(cB m).1.2.2.2.1,(cB m).1.2.2.2.2.1,(cB m).1.q.1,(cB m).1.q.2.1,(cB m).1.q.2.2.1,(cB m).1.q.2.2.2.1,(cB m).1.q.2.2.2.2.1,(cB m).1.q.q.1,(cB m).1.q.q.2.1,(cB m).1.q.q.2.2.1,(cB m).1.q.q.2.2.2.1,(cB m).1.q.q.2.2.2.2.1,(cB m).1.q.q.q.1,(cB m).2,())∧qS m.1 m.2.1 m.2.2.1 m.2.2.2.1 m.2.2.2.2.1 m.q.1 m.q.2.1 m.q.2.2.1 m.q.2.2.2.1 m.q.2.2.2.2.1 m.q.q.1 m.q.q.2.1 m.q.q.2.2.1 m.q.q.2.2.2.1 m.q.q.2.2.2.2.1 m.q.q.q.1=some ((cB m).1.1,(cB m).1.2.1,(cB m).1.2.2.1,(cB m).1.2.2.2.1,(cB m).1.2.2.2.2.1,(cB m).1.q.1,(cB m).1.q.2.1,(cB m).1.q.2.2.1,(cB m).1.q.2.2.2.1,(cB m).1.q.2.2.2.2.1,(cB m).1.q.q.1,(cB m).1.q.q.2.1,(cB m).1.q.q.2.2.1,(cB m).1.q.q.2.2.2.1,(cB m).1.q.q.2.2.2.2.1,(cB m).1.q.q.q.1,(cB m).2,()):=by
 obtain ⟨k,v,h1,h2,h3,_⟩:=Tp m h0;rw [h1];exact ⟨h2,h3⟩
theorem VU (m:ia) (h0:mP m≤1048576):mP (cB m).1=mP m∧(cB m).2.length≤60∧wl ec (cB m).2≤3600:=by
 obtain ⟨k,v,h1,_,_,h4,h5,h6⟩:=Tp m h0;rw [h1];refine ⟨rfl,?_⟩
 cases hb:uN m
 ·rw [h5 hb];exact ⟨Nat.zero_le _,Nat.zero_le _⟩
 ·have hm:=(uO m h0).2.2.1 hb;have Wt:=di _ hm.items;have ha:=(Am m.2.2.2.1 (by omega)).2.2.1;have hh:=hm.heard;have:=(h6 hb).1;have hk:k≤60:=by omega
  have:=PQ (h:=m.q.2.2.2.2.1) (k:=k) hm.items;refine ⟨?_,?_⟩
  ·show (iJ m.2.2.2.1 m.q.2.2.2.2.1 k).length≤60;rw [Av];exact hk
  ·show wl ec (iJ m.2.2.2.1 m.q.2.2.2.2.1 k)≤3600;omega
def eA (c:Int) (ms:cG) (l:aZ):List sf:=l.map fun x=>(1,c,ms,x.1,x.2.1,x.2.2.1,x.2.2.2.1,[],())
theorem nD (c:Int) (ms:cG) (l:aZ):(eA c ms l).length=l.length:=by simp [eA]
theorem Tq (c:Int) (ms:cG):(l:aZ)→wl bD (eA c ms l)=l.length*(ms.length+wl kY ms)+wl ec l
 | []=>by simp [eA,MO]
 |x::l=>by
  have ih:=Tq c ms l;have e:eA c ms (x::l)=(1,c,ms,x.1,x.2.1,x.2.2.1,x.2.2.2.1,[],())::eA c ms l:=rfl;rw [e,tf,ih,tf,List.length_cons,Nat.add_mul];have e1:bD ((1,c,ms,x.1,x.2.1,x.2.2.1,x.2.2.2.1,[],()):sf)=(ms.length+wl kY ms)+ByteArray.size x.2.2.2.1+0:=rfl;have e2:ec x=ByteArray.size x.2.2.2.1:=rfl;omega
theorem nE (c:Int) (xs:cG) (h:xs.length≤1048576):aN c xs=some (c,xs,()):=by
 unfold aN;rw [aW (show (0+xs.length)*8≤lim by unfold lim;omega)];rfl
def lJ (d:bQ) (l:aZ):bQ:=(d.1,d.2.1,d.2.2.1,d.2.2.2.1,d.2.2.2.2.1,d.q.1,d.q.2.1,d.q.2.2.1,d.q.2.2.2.1,d.q.2.2.2.2.1,d.q.q.1,d.q.q.2.1,d.q.q.2.2.1,d.q.q.2.2.2.1,d.q.q.2.2.2.2.1,d.q.q.q.1,d.q.q.q.2.1,d.q.q.q.2.2.1,d.q.q.q.2.2.2.1,d.q.q.q.2.2.2.2.1,d.q.q.q.q.1,d.q.q.q.q.2.1,d.q.q.q.q.2.2.1,d.q.q.q.q.2.2.2.1++eA d.2.2.2.1 d.2.2.2.2.1 l,())
theorem E6 {c:Int} {ms:cG} {l:aZ} {lg:List sf} {k:Nat} (hk:k<l.length):lg++eA c ms (l.take (k+1))=(lg++eA c ms (l.take k))++[(1,c,ms,l[k].1,l[k].2.1,l[k].2.2.1,l[k].2.2.2.1,[],())]:=by
 rw [List.take_succ_eq_append_getElem hk,List.append_assoc]
 congr 1
 unfold eA;rw [List.map_append];rfl
theorem Zo (d:bQ) (l:aZ) (hr:d.2.2.2.2.1.length≤1048576) (hl:l.length≤1048576) (hg:d.q.q.q.q.2.2.2.1.length≤1048576):nf d.1 d.2.1 d.2.2.1 d.2.2.2.1 d.2.2.2.2.1 d.q.1 d.q.2.1 d.q.2.2.1 d.q.2.2.2.1 d.q.2.2.2.2.1 d.q.q.1 d.q.q.2.1 d.q.q.2.2.1 d.q.q.2.2.2.1 d.q.q.2.2.2.2.1 d.q.q.q.1 d.q.q.q.2.1 d.q.q.q.2.2.1 d.q.q.q.2.2.2.1 d.q.q.q.2.2.2.2.1 d.q.q.q.q.1 d.q.q.q.q.2.1 d.q.q.q.q.2.2.1 d.q.q.q.q.2.2.2.1 l=some (lJ d l):=by
 have hl:=bP (round:=iI) (e:=.inl (lJ d l)) l.length (fun k=>(d.1,d.2.1,d.2.2.1,d.2.2.2.1,d.2.2.2.2.1,d.q.1,d.q.2.1,d.q.2.2.1,d.q.2.2.2.1,d.q.2.2.2.2.1,d.q.q.1,d.q.q.2.1,d.q.q.2.2.1,d.q.q.2.2.2.1,d.q.q.2.2.2.2.1,d.q.q.q.1,d.q.q.q.2.1,d.q.q.q.2.2.1,d.q.q.q.2.2.2.1,d.q.q.q.2.2.2.2.1,d.q.q.q.q.1,d.q.q.q.q.2.1,d.q.q.q.q.2.2.1,d.q.q.q.q.2.2.2.1++eA d.2.2.2.1 d.2.2.2.2.1 (l.take k),l,((List.length l:Nat):Int),((k:Nat):Int),())) (by
  simp only [iI,aA,qD,aF,aJ,cond_false,List.take_length,lJ]) (fun k hk=>by
  have hlen:(d.q.q.q.q.2.2.2.1++eA d.2.2.2.1 d.2.2.2.2.1 (l.take k)).length≤1048576+1048576:=by
   rw [List.length_append,nD,List.length_take];omega
  simp only [iI,aA,qD,aF,aD hk,au,cond_true,aC,List.getElem?_eq_getElem hk,Option.bind_some,lB _ _ hr,aW (show ((d.q.q.q.q.2.2.2.1++eA d.2.2.2.1 d.2.2.2.2.1 (l.take k)).length+1)*104≤lim by unfold lim;omega),aH (show k<4611686018427387904 by omega)];rw [E6 hk])
 have hl:aI iI (d.1,d.2.1,d.2.2.1,d.2.2.2.1,d.2.2.2.2.1,d.q.1,d.q.2.1,d.q.2.2.1,d.q.2.2.2.1,d.q.2.2.2.2.1,d.q.q.1,d.q.q.2.1,d.q.q.2.2.1,d.q.q.2.2.2.1,d.q.q.2.2.2.2.1,d.q.q.q.1,d.q.q.q.2.1,d.q.q.q.2.2.1,d.q.q.q.2.2.2.1,d.q.q.q.2.2.2.2.1,d.q.q.q.q.1,d.q.q.q.q.2.1,d.q.q.q.q.2.2.1,d.q.q.q.q.2.2.2.1++[],l,((List.length l:Nat):Int),(0:Int),())=_:=hl;rw [List.append_nil] at hl;unfold nf;rw [hl];rfl
theorem Zp (d:bQ) (m:ia) (l:aZ) (hr:m.2.2.1.length≤1048576) (hl:l.length≤1048576) (hg:d.q.q.q.q.2.2.2.1.length≤1048576):aI ie (d.1,d.2.1,d.2.2.1,d.2.2.2.1,d.2.2.2.2.1,d.q.1,d.q.2.1,d.q.2.2.1,d.q.2.2.2.1,d.q.2.2.2.2.1,d.q.q.1,d.q.q.2.1,d.q.q.2.2.1,d.q.q.2.2.2.1,d.q.q.2.2.2.2.1,d.q.q.q.1,d.q.q.q.2.1,d.q.q.q.2.2.1,d.q.q.q.2.2.2.1,d.q.q.q.2.2.2.2.1,d.q.q.q.q.1,d.q.q.q.q.2.1,d.q.q.q.q.2.2.1,d.q.q.q.q.2.2.2.1,m.1,m.2.1,m.2.2.1,m.2.2.2.1,m.2.2.2.2.1,m.q.1,m.q.2.1,m.q.2.2.1,m.q.2.2.2.1,m.q.2.2.2.2.1,m.q.q.1,m.q.q.2.1,m.q.q.2.2.1,m.q.q.2.2.2.1,m.q.q.2.2.2.2.1,m.q.q.q.1,l,(0:Int),())=some (.inl (d.1,d.2.1,d.2.2.1,d.2.2.2.1,d.2.2.2.2.1,d.q.1,d.q.2.1,d.q.2.2.1,d.q.2.2.2.1,d.q.2.2.2.2.1,d.q.q.1,d.q.q.2.1,d.q.q.2.2.1,d.q.q.2.2.2.1,d.q.q.2.2.2.2.1,d.q.q.q.1,d.q.q.q.2.1,d.q.q.q.2.2.1,d.q.q.q.2.2.2.1,d.q.q.q.2.2.2.2.1,d.q.q.q.q.1,d.q.q.q.q.2.1,d.q.q.q.q.2.2.1,d.q.q.q.q.2.2.2.1++eA m.2.1 m.2.2.1 l,())):=by
 have hl:=bP (round:=ie) (e:=.inl (d.1,d.2.1,d.2.2.1,d.2.2.2.1,d.2.2.2.2.1,d.q.1,d.q.2.1,d.q.2.2.1,d.q.2.2.2.1,d.q.2.2.2.2.1,d.q.q.1,d.q.q.2.1,d.q.q.2.2.1,d.q.q.2.2.2.1,d.q.q.2.2.2.2.1,d.q.q.q.1,d.q.q.q.2.1,d.q.q.q.2.2.1,d.q.q.q.2.2.2.1,d.q.q.q.2.2.2.2.1,d.q.q.q.q.1,d.q.q.q.q.2.1,d.q.q.q.q.2.2.1,d.q.q.q.q.2.2.2.1++eA m.2.1 m.2.2.1 l,())) l.length (fun k=>(d.1,d.2.1,d.2.2.1,d.2.2.2.1,d.2.2.2.2.1,d.q.1,d.q.2.1,d.q.2.2.1,d.q.2.2.2.1,d.q.2.2.2.2.1,d.q.q.1,d.q.q.2.1,d.q.q.2.2.1,d.q.q.2.2.2.1,d.q.q.2.2.2.2.1,d.q.q.q.1,d.q.q.q.2.1,d.q.q.q.2.2.1,d.q.q.q.2.2.2.1,d.q.q.q.2.2.2.2.1,d.q.q.q.q.1,d.q.q.q.q.2.1,d.q.q.q.q.2.2.1,d.q.q.q.q.2.2.2.1++eA m.2.1 m.2.2.1 (l.take k),m.1,m.2.1,m.2.2.1,m.2.2.2.1,m.2.2.2.2.1,m.q.1,m.q.2.1,m.q.2.2.1,m.q.2.2.2.1,m.q.2.2.2.2.1,m.q.q.1,m.q.q.2.1,m.q.q.2.2.1,m.q.q.2.2.2.1,m.q.q.2.2.2.2.1,m.q.q.q.1,l,((k:Nat):Int),())) (by
  simp only [ie,aX,aA,uj,aF,aJ,cond_false,List.take_length]) (fun k hk=>by
  have hlen:(d.q.q.q.q.2.2.2.1++eA m.2.1 m.2.2.1 (l.take k)).length≤1048576+1048576:=by
   rw [List.length_append,nD,List.length_take];omega
  simp only [ie,aX,aA,uj,aF,aD hk,au,cond_true,aC,cw hk,List.getElem?_eq_getElem hk,Option.bind_some,nE _ _ hr,aW (show ((d.q.q.q.q.2.2.2.1++eA m.2.1 m.2.2.1 (l.take k)).length+1)*104≤lim by unfold lim;omega),aH (show k<4611686018427387904 by omega)];rw [E6 hk])
 have hl:aI ie (d.1,d.2.1,d.2.2.1,d.2.2.2.1,d.2.2.2.2.1,d.q.1,d.q.2.1,d.q.2.2.1,d.q.2.2.2.1,d.q.2.2.2.2.1,d.q.q.1,d.q.q.2.1,d.q.q.2.2.1,d.q.q.2.2.2.1,d.q.q.2.2.2.2.1,d.q.q.q.1,d.q.q.q.2.1,d.q.q.q.2.2.1,d.q.q.q.2.2.2.1,d.q.q.q.2.2.2.2.1,d.q.q.q.q.1,d.q.q.q.q.2.1,d.q.q.q.q.2.2.1,d.q.q.q.q.2.2.2.1++[],m.1,m.2.1,m.2.2.1,m.2.2.2.1,m.2.2.2.2.1,m.q.1,m.q.2.1,m.q.2.2.1,m.q.2.2.2.1,m.q.2.2.2.2.1,m.q.q.1,m.q.q.2.1,m.q.q.2.2.1,m.q.q.2.2.2.1,m.q.q.2.2.2.2.1,m.q.q.q.1,l,(0:Int),())=_:=hl;rw [List.append_nil] at hl;exact hl
noncomputable def ed (d:bQ):bQ:=lJ (bE d (cB (az d)).1) (cB (az d)).2
theorem JO (d:bQ) (h0:mP (az d)≤1048576) (hg:d.q.q.q.q.2.2.2.1.length≤1048576):kR d.1 d.2.1 d.2.2.1 d.2.2.2.1 d.2.2.2.2.1 d.q.1 d.q.2.1 d.q.2.2.1 d.q.2.2.2.1 d.q.2.2.2.2.1 d.q.q.1 d.q.q.2.1 d.q.q.2.2.1 d.q.q.2.2.2.1 d.q.q.2.2.2.2.1 d.q.q.q.1 d.q.q.q.2.1 d.q.q.q.2.2.1 d.q.q.q.2.2.2.1 d.q.q.q.2.2.2.2.1 d.q.q.q.q.1 d.q.q.q.q.2.1 d.q.q.q.q.2.2.1 d.q.q.q.q.2.2.2.1=some (ed d)∧gG d.1 d.2.1 d.2.2.1 d.2.2.2.1 d.2.2.2.2.1 d.q.1 d.q.2.1 d.q.2.2.1 d.q.2.2.2.1 d.q.2.2.2.2.1 d.q.q.1 d.q.q.2.1 d.q.q.2.2.1 d.q.q.2.2.2.1 d.q.q.2.2.2.2.1 d.q.q.q.1 d.q.q.q.2.1 d.q.q.q.2.2.1 d.q.q.q.2.2.2.1 d.q.q.q.2.2.2.2.1 d.q.q.q.q.1 d.q.q.q.q.2.1 d.q.q.q.q.2.2.1 d.q.q.q.q.2.2.2.1=some (ed d):=by
 obtain ⟨s1,s2⟩:=VT (az d) h0;obtain ⟨z1,z2,_⟩:=VU (az d) h0;have s1:ph d.2.2.1 d.2.2.2.1 d.2.2.2.2.1 d.q.1 d.q.2.1 d.q.2.2.1 d.q.2.2.2.1 d.q.2.2.2.2.1 d.q.q.1 d.q.q.2.1 d.q.q.2.2.1 d.q.q.2.2.2.1 d.q.q.2.2.2.2.1 d.q.q.q.1 d.q.q.q.2.1 d.q.q.q.2.2.1=some ((cB (az d)).1.1,(cB (az d)).1.2.1,(cB (az d)).1.2.2.1,(cB (az d)).1.2.2.2.1,(cB (az d)).1.2.2.2.2.1,(cB (az d)).1.q.1,(cB (az d)).1.q.2.1,(cB (az d)).1.q.2.2.1,(cB (az d)).1.q.2.2.2.1,(cB (az d)).1.q.2.2.2.2.1,(cB (az d)).1.q.q.1,(cB (az d)).1.q.q.2.1,(cB (az d)).1.q.q.2.2.1,(cB (az d)).1.q.q.2.2.2.1,(cB (az d)).1.q.q.2.2.2.2.1,(cB (az d)).1.q.q.q.1,(cB (az d)).2,()):=s1;have s2:qS d.2.2.1 d.2.2.2.1 d.2.2.2.2.1 d.q.1 d.q.2.1 d.q.2.2.1 d.q.2.2.2.1 d.q.2.2.2.2.1 d.q.q.1 d.q.q.2.1 d.q.q.2.2.1 d.q.q.2.2.2.1 d.q.q.2.2.2.2.1 d.q.q.q.1 d.q.q.q.2.1 d.q.q.q.2.2.1=some ((cB (az d)).1.1,(cB (az d)).1.2.1,(cB (az d)).1.2.2.1,(cB (az d)).1.2.2.2.1,(cB (az d)).1.2.2.2.2.1,(cB (az d)).1.q.1,(cB (az d)).1.q.2.1,(cB (az d)).1.q.2.2.1,(cB (az d)).1.q.2.2.2.1,(cB (az d)).1.q.2.2.2.2.1,(cB (az d)).1.q.q.1,(cB (az d)).1.q.q.2.1,(cB (az d)).1.q.q.2.2.1,(cB (az d)).1.q.q.2.2.2.1,(cB (az d)).1.q.q.2.2.2.2.1,(cB (az d)).1.q.q.q.1,(cB (az d)).2,()):=s2;have hr:(cB (az d)).1.2.2.1.length≤1048576:=by
  have:(cB (az d)).1.2.2.1.length≤mP (cB (az d)).1:=by unfold mP;omega
  omega
 unfold ed;generalize cB (az d)=q at s1 s2 z2 hr;obtain ⟨m,l⟩:=q;have z2:l.length≤60:=z2;have e1:=Zp (bE d m) m l hr (by omega) hg;have e2:=Zo (bE d m) l hr (by omega) hg
 constructor
 ·unfold kR;delta cM;simp only [s1,Option.bind_some];have e1:aI ie (d.1,d.2.1,m.1,m.2.1,m.2.2.1,m.2.2.2.1,m.2.2.2.2.1,m.q.1,m.q.2.1,m.q.2.2.1,m.q.2.2.2.1,m.q.2.2.2.2.1,m.q.q.1,m.q.q.2.1,m.q.q.2.2.1,m.q.q.2.2.2.1,m.q.q.2.2.2.2.1,m.q.q.q.1,d.q.q.q.2.2.2.1,d.q.q.q.2.2.2.2.1,d.q.q.q.q.1,d.q.q.q.q.2.1,d.q.q.q.q.2.2.1,d.q.q.q.q.2.2.2.1,m.1,m.2.1,m.2.2.1,m.2.2.2.1,m.2.2.2.2.1,m.q.1,m.q.2.1,m.q.2.2.1,m.q.2.2.2.1,m.q.2.2.2.2.1,m.q.q.1,m.q.q.2.1,m.q.q.2.2.1,m.q.q.2.2.2.1,m.q.q.2.2.2.2.1,m.q.q.q.1,l,(0:Int),())=_:=e1;rw [e1];rfl
 ·unfold gG;delta aX;simp only [s2,Option.bind_some];have e2:nf d.1 d.2.1 m.1 m.2.1 m.2.2.1 m.2.2.2.1 m.2.2.2.2.1 m.q.1 m.q.2.1 m.q.2.2.1 m.q.2.2.2.1 m.q.2.2.2.2.1 m.q.q.1 m.q.q.2.1 m.q.q.2.2.1 m.q.q.2.2.2.1 m.q.q.2.2.2.2.1 m.q.q.q.1 d.q.q.q.2.2.2.1 d.q.q.q.2.2.2.2.1 d.q.q.q.q.1 d.q.q.q.q.2.1 d.q.q.q.q.2.2.1 d.q.q.q.q.2.2.2.1 l=_:=e2;rw [e2];rfl
noncomputable def eO (d:bQ):Bool:=kj d&&(!d.2.1&&(decide (0<d.q.q.q.2.2.2.2.1)&&decide (d.q.q.q.q.1=0)))
theorem PS (d:bQ) (h:nj d≤1048576) (hi:eO d=true):vu d∧ra (az d)∧d.2.1=false∧d.q.q.q.q.1=0∧0<d.q.q.q.2.2.2.2.1∧d.q.q.q.2.2.2.2.1=d.2.2.2.1:=by
 unfold eO at hi;simp only [Bool.and_eq_true,decide_eq_true_eq,Bool.not_eq_true'] at hi;obtain ⟨h1,h2,h3,h4⟩:=hi;have q:=(pR d h).2.2.1 h1;refine ⟨q,?_,h2,h4,h3,q.old.1⟩;rcases q.uP with g | ⟨g,_⟩
 ·have:d.2.2.2.1=0:=g.2.1;have:=q.old.1;omega
 ·exact g
theorem Aw (d:bQ) (h:nj d≤1048576):(!decide (d.2.2.2.1=0)&&decide (d.q.q.q.q.1=0)&&kj d)=eO d:=by
 unfold eO
 cases hb:kj d
 ·simp
 have q:=(pR d h).2.2.1 hb
 by_cases ho:d.2.2.2.1=0
 ·have:¬0<d.q.q.q.2.2.2.2.1:=by have:=q.old.1;omega
  rw [aq ho,ak this]
  cases d.2.1<;>rfl
 ·have hm:ra (az d):=by
   rcases q.uP with g | ⟨g,_⟩
   ·exact absurd g.2.1 ho
   ·exact g
  have h1:1≤d.2.2.2.1:=hm.ring.1.1;have hd:d.2.1=false:=by
   cases hd:d.2.1
   ·rfl
   ·exact absurd (q.dead hd).1.2.1 ho
  have:0<d.q.q.q.2.2.2.2.1:=by have:=q.old.1;omega
  rw [ak ho,aq this,hd]
  cases decide (d.q.q.q.q.1=0)<;>rfl
noncomputable def px (d:bQ) (tR:Int) (x:ez):bQ:=bif eO d&&decide (d.q.q.q.2.2.2.2.1=tR) then ed (bE d (pT (az d) x)) else d
theorem KP (d:bQ) (tR:Int) (x:ez) (m:ia) (r:bQ) (p1:cI d.1 d.2.1 d.2.2.1 d.2.2.2.1 d.2.2.2.2.1 d.q.1 d.q.2.1 d.q.2.2.1 d.q.2.2.2.1 d.q.2.2.2.2.1 d.q.q.1 d.q.q.2.1 d.q.q.2.2.1 d.q.q.2.2.2.1 d.q.q.2.2.2.2.1 d.q.q.q.1 d.q.q.q.2.1 d.q.q.q.2.2.1 d.q.q.q.2.2.2.1 d.q.q.q.2.2.2.2.1 d.q.q.q.q.1 d.q.q.q.q.2.1 d.q.q.q.q.2.2.1 d.q.q.q.q.2.2.2.1=some d) (hi:eU d.1 d.2.1 d.2.2.1 d.2.2.2.1 d.2.2.2.2.1 d.q.1 d.q.2.1 d.q.2.2.1 d.q.2.2.2.1 d.q.2.2.2.2.1 d.q.q.1 d.q.q.2.1 d.q.q.2.2.1 d.q.q.2.2.2.1 d.q.q.2.2.2.2.1 d.q.q.q.1 d.q.q.q.2.1 d.q.q.q.2.2.1 d.q.q.q.2.2.2.1 d.q.q.q.2.2.2.2.1 d.q.q.q.q.1 d.q.q.q.q.2.1 d.q.q.q.q.2.2.1 d.q.q.q.q.2.2.2.1=some (eO d,())) (c1:wE d.2.2.1 d.2.2.2.1 d.2.2.2.2.1 d.q.1 d.q.2.1 d.q.2.2.1 d.q.2.2.2.1 d.q.2.2.2.2.1 d.q.q.1 d.q.q.2.1 d.q.q.2.2.1 d.q.q.2.2.2.1 d.q.q.2.2.2.2.1 d.q.q.q.1 d.q.q.q.2.1 d.q.q.q.2.2.1 x.1 x.2.1 x.2.2.1 x.2.2.2.1=some m)
  (e1:kR d.1 d.2.1 m.1 m.2.1 m.2.2.1 m.2.2.2.1 m.2.2.2.2.1 m.q.1 m.q.2.1 m.q.2.2.1 m.q.2.2.2.1 m.q.2.2.2.2.1 m.q.q.1 m.q.q.2.1 m.q.q.2.2.1 m.q.q.2.2.2.1 m.q.q.2.2.2.2.1 m.q.q.q.1 d.q.q.q.2.2.2.1 d.q.q.q.2.2.2.2.1 d.q.q.q.q.1 d.q.q.q.q.2.1 d.q.q.q.q.2.2.1 d.q.q.q.q.2.2.2.1=some r):nv d.1 d.2.1 d.2.2.1 d.2.2.2.1 d.2.2.2.2.1 d.q.1 d.q.2.1 d.q.2.2.1 d.q.2.2.2.1 d.q.2.2.2.2.1 d.q.q.1 d.q.q.2.1 d.q.q.2.2.1 d.q.q.2.2.2.1 d.q.q.2.2.2.2.1 d.q.q.q.1 d.q.q.q.2.1 d.q.q.q.2.2.1 d.q.q.q.2.2.2.1 d.q.q.q.2.2.2.2.1 d.q.q.q.q.1 d.q.q.q.q.2.1 d.q.q.q.q.2.2.1 d.q.q.q.q.2.2.2.1 tR x.1 x.2.1 x.2.2.1 x.2.2.2.1=some (bif eO d&&decide (d.q.q.q.2.2.2.2.1=tR) then r else d):=by
 unfold nv;delta aX aP;rw [p1,Option.bind_some,hi,Option.bind_some]
 cases eO d
 ·rfl
 ·cases decide (d.q.q.q.2.2.2.2.1=tR)
  ·rfl
  ·rw [cond_true,cond_true,c1,Option.bind_some,e1,Option.bind_some];rfl
theorem KQ (d:bQ) (tR:Int) (x:ez) (m:ia) (r:bQ) (p2:dP d.1 d.2.1 d.2.2.1 d.2.2.2.1 d.2.2.2.2.1 d.q.1 d.q.2.1 d.q.2.2.1 d.q.2.2.2.1 d.q.2.2.2.2.1 d.q.q.1 d.q.q.2.1 d.q.q.2.2.1 d.q.q.2.2.2.1 d.q.q.2.2.2.2.1 d.q.q.q.1 d.q.q.q.2.1 d.q.q.q.2.2.1 d.q.q.q.2.2.2.1 d.q.q.q.2.2.2.2.1 d.q.q.q.q.1 d.q.q.q.q.2.1 d.q.q.q.q.2.2.1 d.q.q.q.q.2.2.2.1=some d) (k2:du d.1 d.2.1 d.2.2.1 d.2.2.2.1 d.2.2.2.2.1 d.q.1 d.q.2.1 d.q.2.2.1 d.q.2.2.2.1 d.q.2.2.2.2.1 d.q.q.1 d.q.q.2.1 d.q.q.2.2.1 d.q.q.2.2.2.1 d.q.q.2.2.2.2.1 d.q.q.q.1 d.q.q.q.2.1 d.q.q.q.2.2.1 d.q.q.q.2.2.2.1 d.q.q.q.2.2.2.2.1 d.q.q.q.q.1 d.q.q.q.q.2.1 d.q.q.q.q.2.2.1 d.q.q.q.q.2.2.2.1=some (kj d,())) (hq:(!decide (d.2.2.2.1=0)&&decide (d.q.q.q.q.1=0)&&kj d)=eO d) (Z0:eO d=true→d.q.q.q.2.2.2.2.1=d.2.2.2.1) (c2:wT d.2.2.1 d.2.2.2.1 d.2.2.2.2.1 d.q.1 d.q.2.1 d.q.2.2.1 d.q.2.2.2.1 d.q.2.2.2.2.1 d.q.q.1 d.q.q.2.1 d.q.q.2.2.1 d.q.q.2.2.2.1 d.q.q.2.2.2.2.1 d.q.q.q.1 d.q.q.q.2.1 d.q.q.q.2.2.1 x.1 x.2.1 x.2.2.1 x.2.2.2.1=some m)
  (e2:gG d.1 d.2.1 m.1 m.2.1 m.2.2.1 m.2.2.2.1 m.2.2.2.2.1 m.q.1 m.q.2.1 m.q.2.2.1 m.q.2.2.2.1 m.q.2.2.2.2.1 m.q.q.1 m.q.q.2.1 m.q.q.2.2.1 m.q.q.2.2.2.1 m.q.q.2.2.2.2.1 m.q.q.q.1 d.q.q.q.2.2.2.1 d.q.q.q.2.2.2.2.1 d.q.q.q.q.1 d.q.q.q.q.2.1 d.q.q.q.q.2.2.1 d.q.q.q.q.2.2.2.1=some r):nC d.1 d.2.1 d.2.2.1 d.2.2.2.1 d.2.2.2.2.1 d.q.1 d.q.2.1 d.q.2.2.1 d.q.2.2.2.1 d.q.2.2.2.2.1 d.q.q.1 d.q.q.2.1 d.q.q.2.2.1 d.q.q.2.2.2.1 d.q.q.2.2.2.2.1 d.q.q.q.1 d.q.q.q.2.1 d.q.q.q.2.2.1 d.q.q.q.2.2.2.1 d.q.q.q.2.2.2.2.1 d.q.q.q.q.1 d.q.q.q.q.2.1 d.q.q.q.q.2.2.1 d.q.q.q.q.2.2.2.1 tR x.1 x.2.1 x.2.2.1 x.2.2.2.1=some (bif eO d&&decide (d.q.q.q.2.2.2.2.1=tR) then r else d):=by
 unfold nC ej;delta aX aA aP;rw [p2,Option.bind_some];rw [←hq] at Z0 ⊢
 cases ho:decide (d.2.2.2.1=0)
 ·cases hj:decide (d.q.q.q.q.1=0)
  ·rfl
  ·rw [ho,hj] at Z0;simp only [Bool.not_false,cond_true,Option.bind_some,Bool.not_true,cond_false,k2,Bool.true_and]
   cases hb:kj d
   ·cases decide (d.2.2.2.1=tR)<;>rfl
   ·rw [hb] at Z0;have hc:decide (d.q.q.q.2.2.2.2.1=tR)=decide (d.2.2.2.1=tR):=by rw [Z0 rfl]
    rw [hc]
    cases decide (d.2.2.2.1=tR)
    ·rfl
    ·simp only [Bool.not_true,cond_false,Bool.and_self,cond_true,c2,e2,Option.bind_some]
 ·rfl
theorem C7 (d:bQ) (tR:Int) (x:ez) (h:nj d≤1048576):nv d.1 d.2.1 d.2.2.1 d.2.2.2.1 d.2.2.2.2.1 d.q.1 d.q.2.1 d.q.2.2.1 d.q.2.2.2.1 d.q.2.2.2.2.1 d.q.q.1 d.q.q.2.1 d.q.q.2.2.1 d.q.q.2.2.2.1 d.q.q.2.2.2.2.1 d.q.q.q.1 d.q.q.q.2.1 d.q.q.q.2.2.1 d.q.q.q.2.2.2.1 d.q.q.q.2.2.2.2.1 d.q.q.q.q.1 d.q.q.q.q.2.1 d.q.q.q.q.2.2.1 d.q.q.q.q.2.2.2.1 tR x.1 x.2.1 x.2.2.1 x.2.2.2.1=some (px d tR x)∧nC d.1 d.2.1 d.2.2.1 d.2.2.2.1 d.2.2.2.2.1 d.q.1 d.q.2.1 d.q.2.2.1 d.q.2.2.2.1 d.q.2.2.2.2.1 d.q.q.1 d.q.q.2.1 d.q.q.2.2.1 d.q.q.2.2.2.1 d.q.q.2.2.2.2.1 d.q.q.q.1 d.q.q.q.2.1 d.q.q.q.2.2.1 d.q.q.q.2.2.2.1 d.q.q.q.2.2.2.2.1 d.q.q.q.q.1 d.q.q.q.q.2.1 d.q.q.q.q.2.2.1 d.q.q.q.q.2.2.2.1 tR x.1 x.2.1 x.2.2.1 x.2.2.2.1=some (px d tR x):=by
 obtain ⟨k1,k2,_⟩:=pR d h;obtain ⟨p1,p2⟩:=vz d h;have hw:mP (az d)≤1048576:=Nat.le_trans (Zm d) h;obtain ⟨c1,c2⟩:=RF (az d) x hw;have hg:d.q.q.q.q.2.2.2.1.length≤1048576:=by unfold nj at h;omega
 obtain ⟨e1,e2⟩:=JO (bE d (pT (az d) x)) (RG (az d) x hw) hg;exact ⟨KP d tR x _ _ p1 (vQ d h) c1 e1,KQ d tR x _ _ p2 k2 (Aw d h) (fun hi=>(PS d h hi).2.2.2.2.2) c2 e2⟩
end Go.TM
set_option linter.unusedSimpArgs false
set_option linter.unusedVariables false
namespace Go.TM
open Go
def Zq {A B C:Type} (P:A→Prop):Sum A B→Sum A C→Prop
 |.inl a,.inl b=>a=b∧P a
 |_,_=>False
theorem Nx (fe:Int) (ff:Int) (cH:Int) (eJ:Int) (eP:Int) (ea:List (Int×Unit)) (dK:Int) (ew:List (Int×Unit)) (bB:List (ByteArray×Unit)) (h0:List.length ea≤1048576):∃o0 o1 o2 o3 o4 o5 o6,tJ fe ff cH eJ eP ea dK ew bB=some (o0,o1,o2,o3,o4,o5,o6,())∧oR fe ff cH eJ eP ea dK ew bB=some (o0,o1,o2,o3,o4,o5,o6,())∧o5=ea∧(List.length o6+wl ec o6)≤1048576:=by
 obtain ⟨b,k1,k2,k3⟩:=wX fe ff cH eJ eP ea (by omega);obtain ⟨c1,c2⟩:=kZ fe ff cH eJ eP ea (by omega);have hm:(if (3:Int)<((List.length bB:Nat):Int) then (3:Int) else ((List.length bB:Nat):Int))=((min 3 bB.length:Nat):Int):=by split<;>omega
 unfold tJ oR;delta bF;simp only [k1,k2,c1,c2,ni,pw,Option.bind_some]
 cases b
 ·cases (decide (1≤dK)&&decide (dK≤5))
  ·exact ⟨_,_,_,_,_,ea,[],rfl,rfl,rfl,by decide⟩
  ·exact ⟨_,_,_,_,_,ea,[],rfl,rfl,rfl,by decide⟩
 cases (decide (1≤dK)&&decide (dK≤5))
 ·exact ⟨_,_,_,_,_,ea,[],rfl,rfl,rfl,by decide⟩
 obtain ⟨z1,z2,z3,z4,z5,z6⟩:=k3 rfl;have hml:(bB.take (min 3 bB.length)).length=min 3 bB.length:=by simp
 simp only [Bool.not_true,cond_false,hm,aC,au,cond_true,List.drop_zero,hml,aq (show ((min 3 bB.length:Nat):Int)≤((List.length bB:Nat):Int) by omega)];obtain ⟨e,f,g1,g2,g3⟩:∃e f,aI lX (dK,ew,bB,fe,ff,cH,eJ,eP,ea,(0:Int),(0:Int),(0:Int),(0:Int),(0:Int),[],fe,ff,cH,eJ,eP,ea,[],(0:Int),())=some e∧
   aI fG (dK,ew,fe,ff,cH,eJ,eP,ea,(0:Int),(0:Int),(0:Int),(0:Int),(0:Int),[],fe,ff,cH,eJ,eP,ea,[],bB.take (min 3 bB.length),((min 3 bB.length:Nat):Int),(0:Int),())=some f∧
   Zq (fun v=>∃(q:Int) (l:aZ),v=(fe,ff,cH,eJ,eP,ea,(0:Int),(0:Int),(0:Int),(0:Int),(0:Int),[],fe,ff,q,eJ,eP,ea,l,())∧l.length≤3∧wl ec l≤180) e f:=by
  refine oB 3 (fun k x y=>∃l:aZ,x=(dK,ew,bB,fe,ff,cH,eJ,eP,ea,(0:Int),(0:Int),(0:Int),(0:Int),(0:Int),[],fe,ff,cH+((k:Nat):Int),eJ,eP,ea,l,((k:Nat):Int),())∧
   y=(dK,ew,fe,ff,cH,eJ,eP,ea,(0:Int),(0:Int),(0:Int),(0:Int),(0:Int),[],fe,ff,cH+((k:Nat):Int),eJ,eP,ea,l,bB.take (min 3 bB.length),((min 3 bB.length:Nat):Int),((k:Nat):Int),())∧l.length=k∧wl ec l≤60*k) _ ?_ ⟨[],by rw [show cH+((0:Nat):Int)=cH by omega];rfl,by rw [show cH+((0:Nat):Int)=cH by omega];rfl,rfl,Nat.le_refl _⟩
  rintro k x y hk ⟨l,rfl,rfl,q1,q2⟩
  have stop:∀ {A B:Type} (u:Sum _ A) (v:Sum _ B),u=.inl (fe,ff,cH,eJ,eP,ea,(0:Int),(0:Int),(0:Int),(0:Int),(0:Int),([]:List (Int×Unit)),fe,ff,cH+((k:Nat):Int),eJ,eP,ea,l,())→v=.inl (fe,ff,cH,eJ,eP,ea,(0:Int),(0:Int),(0:Int),(0:Int),(0:Int),([]:List (Int×Unit)),fe,ff,cH+((k:Nat):Int),eJ,eP,ea,l,())→
    Zq (fun v=>∃(q:Int) (l:aZ),v=(fe,ff,cH,eJ,eP,ea,(0:Int),(0:Int),(0:Int),(0:Int),(0:Int),([]:List (Int×Unit)),fe,ff,q,eJ,eP,ea,l,())∧l.length≤3∧wl ec l≤180) u v:=by
   intro A B u v e1 e2;subst e1 e2;exact ⟨rfl,_,l,rfl,by omega,by omega⟩
  by_cases h1:k<bB.length
  ·by_cases h4:k<3
   ·have hmk:k<min 3 bB.length:=by omega
    have Kg:(bB.take (min 3 bB.length))[k]?=some bB[k]:=by rw [List.getElem?_take_of_lt hmk];exact List.getElem?_eq_getElem h1
    have e1:IntKind.i64.wrap ((cH+((k:Nat):Int))+(1:Int))=cH+((k+1:Nat):Int):=by rw [fj]<;>omega
    simp only [lX,aX,aP,rG,fG,aA,iW,aD h1,aD hmk,aq (show ((k:Nat):Int)<(3:Int) by omega),au,cond_true,aC,List.getElem?_eq_getElem h1,Kg,Option.bind_some,e1,aW (show (l.length+1)*40≤lim by unfold lim;omega),aH (show k<4611686018427387904 by omega)]
    by_cases h5:cH+((k:Nat):Int)<60
    ·rw [aq h5,ak (show ¬(60:Int)≤cH+((k:Nat):Int) by omega)]
     by_cases h6:((ByteArray.size bB[k].1:Nat):Int)≤60
     ·rw [aq h6,ak (show ¬(60:Int)<((ByteArray.size bB[k].1:Nat):Int) by omega)];have add:∀lv:Int,wl ec (l++[(cH+((k+1:Nat):Int),dK,lv,bB[k].1,())])≤60*(k+1):=by
       intro lv;rw [IA];have:wl ec [(cH+((k+1:Nat):Int),dK,lv,bB[k].1,())]=ByteArray.size bB[k].1:=rfl;omega
      by_cases h7:k<ew.length
      ·rw [aD h7];simp only [cond_true,cond_false,List.getElem?_eq_getElem h7,Option.bind_some]
       cases decide (ew[k].1=2)
       ·exact .inr ⟨h4,_,_,rfl,rfl,_,rfl,rfl,by simp [q1],add 1⟩
       ·exact .inr ⟨h4,_,_,rfl,rfl,_,rfl,rfl,by simp [q1],add 2⟩
      ·rw [ak (show ¬((k:Nat):Int)<((List.length ew:Nat):Int) by omega)];exact .inr ⟨h4,_,_,rfl,rfl,_,rfl,rfl,by simp [q1],add 1⟩
     ·rw [ak h6,aq (show (60:Int)<((ByteArray.size bB[k].1:Nat):Int) by omega)];exact .inl ⟨_,_,rfl,rfl,stop _ _ rfl rfl⟩
    ·rw [ak h5,aq (show (60:Int)≤cH+((k:Nat):Int) by omega)];exact .inl ⟨_,_,rfl,rfl,stop _ _ rfl rfl⟩
   ·have hk3:k=3:=by omega
    refine .inl ⟨_,_,?_,?_,stop _ _ rfl rfl⟩
    ·simp only [lX,aX,aP,rG,aD h1,ak (show ¬((k:Nat):Int)<(3:Int) by omega),cond_true,cond_false]
    ·simp only [fG,aA,iW,ak (show ¬((k:Nat):Int)<((min 3 bB.length:Nat):Int) by omega),cond_false]
  ·refine .inl ⟨_,_,?_,?_,stop _ _ rfl rfl⟩
   ·simp only [lX,aX,aP,rG,ak (show ¬((k:Nat):Int)<((List.length bB:Nat):Int) by omega),cond_false]
   ·simp only [fG,aA,iW,ak (show ¬((k:Nat):Int)<((min 3 bB.length:Nat):Int) by omega),cond_false]
 rw [g1,g2]
 cases e with
 |inr e=>exact g3.elim
 |inl e=>cases f with
  |inr f=>exact g3.elim
  |inl f=>
   obtain ⟨rfl,q,l,rfl,q1,q2⟩:=g3;simp only [oA]
   cases decide (eJ=cH)
   ·exact ⟨_,_,_,_,_,ea,l,rfl,rfl,rfl,by omega⟩
   ·cases decide (eP=0)
    ·exact ⟨_,_,_,_,_,ea,l,rfl,rfl,rfl,by omega⟩
    ·exact ⟨_,_,_,_,_,ea,l,rfl,rfl,rfl,by omega⟩
end Go.TM
set_option linter.unusedSimpArgs false
set_option linter.unusedVariables false
namespace Go.TM
open Go
def CH (c2 from_:Int) (level:List (Int×Unit)) (texts:List (ByteArray×Unit)) (j:Nat):ez:=
 (c2+((j+1:Nat):Int),from_,(bif decide (j<level.length)&&decide ((level.getD j ((0:Int),())).1=2) then 2 else 1),(texts.getD j (ByteArray.empty,())).1,())
def de (c2 from_:Int) (level:List (Int×Unit)) (texts:List (ByteArray×Unit)) (m:Nat):aZ:=(List.range m).map (CH c2 from_ level texts)
theorem py (c2 from_:Int) (level:List (Int×Unit)) (texts:List (ByteArray×Unit)) (m:Nat):(de c2 from_ level texts m).length=m:=by simp [de]
theorem KR (c2 from_:Int) (level:List (Int×Unit)) (texts:List (ByteArray×Unit)) (m:Nat):de c2 from_ level texts (m+1)=de c2 from_ level texts m++[CH c2 from_ level texts m]:=by
 unfold de;rw [List.range_succ,List.map_append];rfl
def Hz (c2:Int) (texts:List (ByteArray×Unit)) (m:Nat):Prop:=m=min 3 texts.length∨60≤c2+((m:Nat):Int)∨∃h:m<texts.length,60<ByteArray.size texts[m].1
theorem RO (fe:Int) (ff:Int) (cH:Int) (eJ:Int) (eP:Int) (ea:List (Int×Unit)) (dK:Int) (ew:List (Int×Unit)) (bB:List (ByteArray×Unit)) (h0:List.length ea≤1048576) (h3:List.length bB≤1048576) (hd:1≤dK∧dK≤5) (ht:aiq fe ff cH eJ eP ea) :
  ∃m t3,oR fe ff cH eJ eP ea dK ew bB=some (fe,ff,cH+((m:Nat):Int),t3,eP,ea,de cH dK ew bB m,())∧m≤3∧m≤bB.length∧cH+((m:Nat):Int)≤60∧(t3=eJ∨t3=cH+((m:Nat):Int))∧Hz cH bB m∧t3=(if eJ=cH∧eP=0 then cH+((m:Nat):Int) else eJ):=by
 obtain ⟨b,_,k2,k3⟩:=L6 fe ff cH eJ eP ea h0;have hb:=k3.2 ht;subst hb;obtain ⟨_,c2⟩:=kZ fe ff cH eJ eP ea h0;obtain ⟨_,_,z2,z3,_⟩:=ht;have hm:(if (3:Int)<((List.length bB:Nat):Int) then (3:Int) else ((List.length bB:Nat):Int))=((min 3 bB.length:Nat):Int):=by split<;>omega
 have hml:(bB.take (min 3 bB.length)).length=min 3 bB.length:=by simp
 unfold oR;delta bF;simp only [k2,c2,pw,aq hd.1,aq hd.2,Bool.and_self,Option.bind_some,Bool.not_true,cond_false,hm,aC,au,cond_true,List.drop_zero,hml,aq (show ((min 3 bB.length:Nat):Int)≤((List.length bB:Nat):Int) by omega)];have fin:∀(k:Nat),∃v:Int×Int×Int×Int×Int×(List (Int×Unit))×Int×Int×Int×Int×Int×(List (Int×Unit))×Int×Int×Int×Int×Int×(List (Int×Unit))×aZ×Unit,v=(fe,ff,cH,eJ,eP,ea,(0:Int),(0:Int),(0:Int),(0:Int),(0:Int),[],fe,ff,cH+((k:Nat):Int),eJ,eP,ea,de cH dK ew bB k,()):=fun k=>⟨_,rfl⟩
 obtain ⟨e,g1,m,g2,g3,g4,g5,g6⟩:∃e,aI fG (dK,ew,fe,ff,cH,eJ,eP,ea,(0:Int),(0:Int),(0:Int),(0:Int),(0:Int),[],fe,ff,cH,eJ,eP,ea,[],bB.take (min 3 bB.length),((min 3 bB.length:Nat):Int),(0:Int),())=some e∧
   ∃m:Nat,e=.inl (fe,ff,cH,eJ,eP,ea,(0:Int),(0:Int),(0:Int),(0:Int),(0:Int),[],fe,ff,cH+((m:Nat):Int),eJ,eP,ea,de cH dK ew bB m,())∧m≤3∧m≤bB.length∧cH+((m:Nat):Int)≤60∧Hz cH bB m:=by
  refine dU (min 3 bB.length) (fun k x=>x=(dK,ew,fe,ff,cH,eJ,eP,ea,(0:Int),(0:Int),(0:Int),(0:Int),(0:Int),[],fe,ff,cH+((k:Nat):Int),eJ,eP,ea,de cH dK ew bB k,bB.take (min 3 bB.length),((min 3 bB.length:Nat):Int),((k:Nat):Int),())∧cH+((k:Nat):Int)≤60) _ ?_ ?_ ⟨by rw [show cH+((0:Nat):Int)=cH by omega];rfl,by omega⟩
  ·rintro x ⟨rfl,q⟩
   exact ⟨_,by simp only [fG,aA,iW,aJ,cond_false],_,rfl,by omega,by omega,q,.inl rfl⟩
  ·rintro k x hmk ⟨rfl,q⟩
   have h1:k<bB.length:=by omega
   have Kg:(bB.take (min 3 bB.length))[k]?=some bB[k]:=by rw [List.getElem?_take_of_lt hmk];exact List.getElem?_eq_getElem h1
   have hgt:(bB.getD k (ByteArray.empty,())).1=bB[k].1:=by rw [List.getD_eq_getElem?_getD,List.getElem?_eq_getElem h1,Option.getD_some]
   have stop:Hz cH bB k→∃m:Nat,(.inl (fe,ff,cH,eJ,eP,ea,(0:Int),(0:Int),(0:Int),(0:Int),(0:Int),[],fe,ff,cH+((k:Nat):Int),eJ,eP,ea,de cH dK ew bB k,()):Sum _ Unit)=.inl (fe,ff,cH,eJ,eP,ea,(0:Int),(0:Int),(0:Int),(0:Int),(0:Int),([]:List (Int×Unit)),fe,ff,cH+((m:Nat):Int),eJ,eP,ea,de cH dK ew bB m,())∧m≤3∧m≤bB.length∧cH+((m:Nat):Int)≤60∧Hz cH bB m:=
    fun hq=>⟨k,rfl,by omega,by omega,q,hq⟩
   by_cases h5:(60:Int)≤cH+((k:Nat):Int)
   ·refine .inl ⟨_,?_,stop (.inr (.inl h5))⟩;simp only [fG,aA,iW,aD hmk,au,cond_true,aC,Kg,Option.bind_some,aq h5]
   have e1:IntKind.i64.wrap ((cH+((k:Nat):Int))+(1:Int))=cH+((k+1:Nat):Int):=by rw [fj]<;>omega
   by_cases h6:(60:Int)<((ByteArray.size bB[k].1:Nat):Int)
   ·refine .inl ⟨_,?_,stop (.inr (.inr ⟨h1,by omega⟩))⟩;simp only [fG,aA,iW,aD hmk,au,cond_true,cond_false,aC,Kg,Option.bind_some,ak h5,aq h6]
   refine .inr ⟨_,?_,rfl,by omega⟩;have hlen:=py cH dK ew bB k;simp only [fG,aA,iW,aD hmk,au,cond_true,cond_false,aC,Kg,Option.bind_some,ak h5,ak h6,e1,hlen,aW (show (k+1)*40≤lim by unfold lim;omega),aH (show k<4611686018427387904 by omega)];rw [KR];unfold CH;rw [hgt]
   by_cases h7:k<ew.length
   ·have hgl:ew.getD k ((0:Int),())=ew[k]:=by rw [List.getD_eq_getElem?_getD,List.getElem?_eq_getElem h7,Option.getD_some]
    rw [aD h7,aq h7,hgl];simp only [cond_true,List.getElem?_eq_getElem h7,Option.bind_some,Bool.true_and]
    cases decide (ew[k].1=2)<;>rfl
   ·rw [ak (show ¬((k:Nat):Int)<((List.length ew:Nat):Int) by omega),ak h7];rfl
 rw [g1];subst g2;simp only [oA]
 by_cases w1:eJ=cH
 ·rw [aq w1]
  by_cases w2:eP=0
  ·rw [aq w2];exact ⟨m,_,rfl,g3,g4,g5,.inr rfl,g6,by rw [if_pos ⟨w1,w2⟩]⟩
  ·rw [ak w2];exact ⟨m,_,rfl,g3,g4,g5,.inl rfl,g6,by rw [if_neg (fun h=>w2 h.2)]⟩
 ·rw [ak w1];exact ⟨m,_,rfl,g3,g4,g5,.inl rfl,g6,by rw [if_neg (fun h=>w1 h.1)]⟩
end Go.TM
set_option linter.unusedSimpArgs false
set_option linter.unusedVariables false
namespace Go.TM
open Go
def G2 (c2 c3 c4 d a:Int):Int:=if a<c3 then a else if c4=d then (if c2<a then c2 else a) else c3
def G3 (c2 c3 c4 d a:Int):Int:=if a<c3 then d else if c4=d then (if c2≤a then 0 else c4) else c4
theorem Zr (c0 c1 c2 c3 c4:Int) (xs:List (Int×Unit)) (d a:Int) (h:xs.length≤1048576) {b:Bool} (hb:fk c0 c1 c2 c3 c4 xs=some (b,())) :
  ∃t3 t4,yq c0 c1 c2 c3 c4 xs d a=some (c0,c1,c2,t3,t4,xs,())∧yz c0 c1 c2 c3 c4 xs d a=some (c0,c1,c2,t3,t4,xs,())∧
   (b=false∨d<1∨5<d∨a<0→t3=c3∧t4=c4)∧(b=true→1≤d→d≤5→0≤a→0≤c3→c3≤c2→0≤t3∧t3≤c2∧t3≤a∧(t3≤c3∨c4=d)∧(t4=c4∨t4=d∨(t4=0∧c4=d)))∧(b=true→1≤d→d≤5→0≤a→t3=G2 c2 c3 c4 d a∧t4=G3 c2 c3 c4 d a):=by
 obtain ⟨b',h1,h2,_⟩:=wX c0 c1 c2 c3 c4 xs h;rw [hb] at h1;obtain rfl:b=b':=by injection h1 with h1;injection h1
 obtain ⟨h3,h4⟩:=kZ c0 c1 c2 c3 c4 xs h;unfold yq yz;simp only [Option.bind_some,hb,h2,h3,h4,ni,pw]
 cases b
 ·have:∀t3 t4:Int,t3=c3→t4=c4→(false=false∨d<1∨5<d∨a<0→t3=c3∧t4=c4)∧(false=true→1≤d→d≤5→0≤a→0≤c3→c3≤c2→0≤t3∧t3≤c2∧t3≤a∧(t3≤c3∨c4=d)∧(t4=c4∨t4=d∨(t4=0∧c4=d)))∧(false=true→1≤d→d≤5→0≤a→t3=G2 c2 c3 c4 d a∧t4=G3 c2 c3 c4 d a):=
   fun t3 t4 e1 e2=>⟨fun _=>⟨e1,e2⟩,(fun h=>by cases h),(fun h=>by cases h)⟩
  cases (decide (1≤d)&&decide (d≤5))
  ·exact ⟨_,_,rfl,rfl,this _ _ rfl rfl⟩
  cases decide (a<0)
  ·exact ⟨_,_,rfl,rfl,this _ _ rfl rfl⟩
  ·exact ⟨_,_,rfl,rfl,this _ _ rfl rfl⟩
 by_cases hd:1≤d∧d≤5
 ·rw [aq hd.1,aq hd.2]
  by_cases ha:a<0
  ·rw [aq ha];exact ⟨_,_,rfl,rfl,(fun _=>⟨rfl,rfl⟩),(fun _ _ _ h=>by omega),(fun _ _ _ h=>by omega)⟩
  rw [ak ha];have no:∀ {A:Prop},(true=false∨d<1∨5<d∨a<0)→A:=by
   rintro A (h | h | h | h)
   ·cases h
   ·omega
   ·omega
   ·omega
  by_cases h5:a<c3
  ·rw [aq h5];exact ⟨_,_,rfl,rfl,no,(fun _ _ _ _ _ _=>⟨by omega,by omega,by omega,.inl (by omega),.inr (.inl rfl)⟩),fun _ _ _ _=>by unfold G2 G3;rw [if_pos h5,if_pos h5];exact ⟨rfl,rfl⟩⟩
  rw [ak h5]
  by_cases h6:c4=d
  ·rw [aq h6]
   by_cases h7:c2<a
   ·rw [aq h7,if_pos h7,aq (show c2=c2 from rfl)];exact ⟨_,_,rfl,rfl,no,(fun _ _ _ _ _ _=>⟨by omega,by omega,by omega,.inr h6,.inr (.inr ⟨rfl,h6⟩)⟩),fun _ _ _ _=>by unfold G2 G3;rw [if_neg h5,if_neg h5,if_pos h6,if_pos h6,if_pos h7,if_pos (by omega)];exact ⟨rfl,rfl⟩⟩
   ·rw [ak h7,if_neg h7]
    by_cases h8:a=c2
    ·rw [aq h8];exact ⟨_,_,rfl,rfl,no,(fun _ _ _ _ _ _=>⟨by omega,by omega,by omega,.inr h6,.inr (.inr ⟨rfl,h6⟩)⟩),fun _ _ _ _=>by unfold G2 G3;rw [if_neg h5,if_neg h5,if_pos h6,if_pos h6,if_neg h7,if_pos (by omega)];exact ⟨rfl,rfl⟩⟩
    ·rw [ak h8];exact ⟨_,_,rfl,rfl,no,(fun _ _ _ _ _ _=>⟨by omega,by omega,by omega,.inr h6,.inl rfl⟩),fun _ _ _ _=>by unfold G2 G3;rw [if_neg h5,if_neg h5,if_pos h6,if_pos h6,if_neg h7,if_neg (by omega)];exact ⟨rfl,rfl⟩⟩
  ·rw [ak h6];exact ⟨_,_,rfl,rfl,no,(fun _ _ _ _ _ _=>⟨by omega,by omega,by omega,.inl (by omega),.inl rfl⟩),fun _ _ _ _=>by unfold G2 G3;rw [if_neg h5,if_neg h5,if_neg h6,if_neg h6];exact ⟨rfl,rfl⟩⟩
 ·have e:(decide (1≤d)&&decide (d≤5))=false:=by
   cases hq:(decide (1≤d)&&decide (d≤5))
   ·rfl
   ·rw [Bool.and_eq_true,decide_eq_true_eq,decide_eq_true_eq] at hq;exact absurd hq hd
  rw [e];exact ⟨_,_,rfl,rfl,(fun _=>⟨rfl,rfl⟩),(fun _ h1 h2=>absurd ⟨h1,h2⟩ hd),(fun _ h1 h2=>absurd ⟨h1,h2⟩ hd)⟩
end Go.TM
set_option linter.unusedSimpArgs false
set_option linter.unusedVariables false
namespace Go.TM
open Go
theorem Ny (d:Int) (xs:List (Int×Unit)) (h:xs.length≤1048576):dA xs d=some (decide (d∈cE xs),()):=by
 obtain ⟨e,he,hq⟩:=dU (round:=eY) (x:=(xs,d,((0:Nat):Int),())) xs.length (fun k x=>x=(xs,d,((k:Nat):Int),())∧d∉cE (xs.take k)) (fun e=>(e=.inl ()∧d∉cE xs)∨(e=.inr (true,())∧d∈cE xs)) (by
   rintro x ⟨rfl,g⟩
   rw [List.take_length] at g;exact ⟨.inl (),by simp only [eY,lr,aJ,cond_false],.inl ⟨rfl,g⟩⟩) (by
   rintro k x hk ⟨rfl,g⟩
   simp only [eY,lr,aD hk,au,cond_true,aC,List.getElem?_eq_getElem hk,Option.bind_some,aH (show k<4611686018427387904 by omega)]
   by_cases e:xs[k].1=d
   ·rw [aq e];exact .inl ⟨_,rfl,.inr ⟨rfl,by rw [←e];exact List.mem_map_of_mem (List.getElem_mem hk)⟩⟩
   ·rw [ak e];refine .inr ⟨_,rfl,rfl,?_⟩;rw [List.take_succ_eq_append_getElem hk];unfold cE at g ⊢;rw [List.map_append,List.mem_append]
    rintro (h1 | h1)
    ·exact g h1
    ·simp only [List.map_cons,List.map_nil,List.mem_singleton] at h1;exact e h1.symm) ⟨rfl,by simp [cE]⟩
 have he:aI eY (xs,d,(0:Int),())=some e:=he;unfold dA;rw [he];rcases hq with ⟨rfl,g⟩ | ⟨rfl,g⟩
 ·rw [ak g];rfl
 ·rw [aq g];rfl
theorem Nz (d:Int) (xs:List (Int×Unit)) (h:xs.length≤1048576):cK xs d=some (decide (d∈cE xs),()):=by
 obtain ⟨b,h1,h2⟩:=qb d xs h;rw [Ny d xs h] at h1;injection h1 with h1;injection h1 with h1 _;rw [h2,h1]
def hasB (list:aZ) (s:Int):Bool:=(fH list s).isSome
theorem Cf (o:Option ez):(rZ o).2.2.2.2.1=o.isSome:=by cases o<;>rfl
def NA {B C:Type} (list:aZ) (u:Int):Sum ((List (Int×Unit))×Unit) B→Sum ((List (Int×Unit))×Unit) C→Prop
 |.inl a,.inl b=>a=b∧∃ms:List Int,a.1=bK ms∧ms.length≤20∧∀s∈ms,1≤s∧s≤u∧hasB list s=false
 |_,_=>False
theorem E7 (list:aZ) (upto u:Int) (n:Nat) (h:list.length≤1048576) (hn:n≤1048576) (hu:(if (60:Int)<upto then (60:Int) else upto)=u) (azT:u≤60) :
  ∃e f,aI jk (list,u,[],((n+1:Nat):Int),())=some e∧aI kF (list,upto,[],((n+1:Nat):Int),())=some f∧NA list u e f:=by
 refine oB 61 (fun k x y=>∃ms:List Int,x=(list,u,bK ms,((n+1+k:Nat):Int),())∧y=(list,upto,bK ms,((n+1+k:Nat):Int),())∧ms.length≤20∧∀s∈ms,1≤s∧s≤u∧hasB list s=false) (NA list u) ?_ ⟨[],rfl,rfl,by simp,fun s hs=>by cases hs⟩
 rintro k x y hk ⟨ms,rfl,rfl,q1,q2⟩
 have stop:NA (B:=Unit) (C:=Unit) list u (.inl (bK ms,())) (.inl (bK ms,())):=⟨rfl,ms,rfl,q1,q2⟩
 by_cases dB:((n+1+k:Nat):Int)≤u
 case neg=>
  refine .inl ⟨.inl (bK ms,()),.inl (bK ms,()),?_,?_,⟨rfl,ms,rfl,q1,q2⟩⟩
  ·simp only [jk,ax,qj,ak dB,cond_false]
  ·simp only [kF,ax,qm,hu,ak dB,cond_false]
 by_cases h20:((List.length (bK ms):Nat):Int)<20
 case neg=>
  refine .inl ⟨.inl (bK ms,()),.inl (bK ms,()),?_,?_,⟨rfl,ms,rfl,q1,q2⟩⟩
  ·simp only [jk,ax,qj,aq dB,ak h20,cond_true,cond_false]
  ·simp only [kF,ax,qm,hu,aq dB,ak h20,cond_true,cond_false]
 have hl:(bK ms).length=ms.length:=dZ ms;simp only [jk,ax,qj,kF,ax,qm,hu,aq dB,aq h20,cond_true,xB list _ h,xC list _ h,Option.bind_some,Cf,aW (show ((bK ms).length+1)*8≤lim by unfold lim;omega),aH (show n+1+k<4611686018427387904 by omega)]
 cases hh:(fH list ((n+1+k:Nat):Int)).isSome
 ·refine .inr ⟨by omega,_,_,rfl,rfl,ms++[((n+1+k:Nat):Int)],by simp [bK];omega,by simp [bK];omega,by simp;omega,fun s hs => ?_⟩;rcases List.mem_append.1 hs with hs | hs
  ·exact q2 s hs
  ·rw [List.mem_singleton] at hs;subst hs;exact ⟨by omega,by omega,hh⟩
 ·exact .inr ⟨by omega,_,_,rfl,rfl,ms,by rw [show n+1+k+1=n+1+(k+1) by omega],by rw [show n+1+k+1=n+1+(k+1) by omega],q1,q2⟩
theorem PT (list:aZ) (upto:Int) (h:list.length≤1048576):∃ms:List Int,rH list upto=some (bK ms,())∧rU list upto=some (bK ms,())∧ms.length≤20∧∀s∈ms,1≤s∧(s≤60∧s≤upto)∧hasB list s=false:=by
 obtain ⟨n,a1,a2,a3,_⟩:=E0 list h;have hw:IntKind.i64.wrap (((n:Nat):Int)+(1:Int))=((n+1:Nat):Int):=aH (by omega);unfold rH rU;simp only [a1,a2,Option.bind_some,hw]
 by_cases hu:(60:Int)<upto
 ·obtain ⟨e,f,g1,g2,g3⟩:=E7 list upto 60 n h (by omega) (if_pos hu) (by omega);rw [aq hu];simp only [cond_true,g1,g2]
  cases e with
  |inr e=>exact g3.elim
  |inl e=>cases f with
   |inr f=>exact g3.elim
   |inl f=>
    obtain ⟨rfl,ms,k1,k2,k3⟩:=g3;simp only [oA];exact ⟨ms,by rw [k1],by rw [k1],k2,fun s hs=>⟨(k3 s hs).1,⟨(k3 s hs).2.1,by have:=(k3 s hs).2.1;omega⟩,(k3 s hs).2.2⟩⟩
 ·obtain ⟨e,f,g1,g2,g3⟩:=E7 list upto upto n h (by omega) (if_neg hu) (by omega);rw [ak hu];simp only [cond_false,g1,g2]
  cases e with
  |inr e=>exact g3.elim
  |inl e=>cases f with
   |inr f=>exact g3.elim
   |inl f=>
    obtain ⟨rfl,ms,k1,k2,k3⟩:=g3;simp only [oA];exact ⟨ms,by rw [k1],by rw [k1],k2,fun s hs=>⟨(k3 s hs).1,⟨by have:=(k3 s hs).2.1;omega,(k3 s hs).2.1⟩,(k3 s hs).2.2⟩⟩
theorem JP:∀(a b:List Int),a.Pairwise (· < ·)→b.Pairwise (· < ·)→(∀x,x∈a↔x∈b)→a=b
 | [],[],_,_,_=>rfl
 | [],y::b,_,_,h=>absurd ((h y).2 List.mem_cons_self) (by simp)
 |x::a,[],_,_,h=>absurd ((h x).1 List.mem_cons_self) (by simp)
 |x::a,y::b,ha,hb,h=>by
  rw [List.pairwise_cons] at ha hb;have hxy:x=y:=by
   rcases List.mem_cons.1 ((h x).1 List.mem_cons_self) with e | e
   ·exact e
   ·have h1:=hb.1 x e;rcases List.mem_cons.1 ((h y).2 List.mem_cons_self) with e2 | e2
    ·exact e2.symm
    ·have h2:=ha.1 y e2;omega
  subst hxy
  congr 1
  refine JP a b ha.2 hb.2 fun z=>⟨fun hz => ?_,fun hz => ?_⟩
  ·rcases List.mem_cons.1 ((h z).1 (List.mem_cons_of_mem _ hz)) with e | e
   ·have:=ha.1 z hz;omega
   ·exact e
  ·rcases List.mem_cons.1 ((h z).2 (List.mem_cons_of_mem _ hz)) with e | e
   ·have:=hb.1 z hz;omega
   ·exact e
theorem abr (l:List Int):(l.mergeSort fun x y=>decide (x≤y)).Pairwise (· ≤ ·):=by
 have:=List.pairwise_mergeSort (le:=fun x y:Int=>decide (x≤y)) (fun a b c h1 h2=>by simp only [decide_eq_true_eq] at *;omega) (fun a b=>by simp only [Bool.or_eq_true,decide_eq_true_eq];omega) l;exact this.imp fun h=>by simpa using h
theorem Zs (l:List Int) (x:Int):x∈(l.mergeSort fun x y=>decide (x≤y))↔x∈l:=(List.mergeSort_perm l _).mem_iff
theorem yG (l:List Int) (j:Nat) (h:j<l.length):l.toArray[j]! = l[j]:=by
 rw [getElem!_pos l.toArray j (by simpa using h)];simp
theorem JQ (l:List Int) (h:l.Pairwise (· ≤ ·)):(Lib.compact l).Pairwise (· < ·):=by
 unfold Lib.compact Lib.compactUpTo;rw [List.pairwise_map];have hr:((List.range l.length).filter (Lib.keeps l.toArray)).Pairwise (· < ·):=List.Pairwise.filter _ List.pairwise_lt_range;refine hr.imp_of_mem fun {i j} hi hj Z1 => ?_
 obtain ⟨hi1,_⟩:=List.mem_filter.1 hi;obtain ⟨QS,OW⟩:=List.mem_filter.1 hj;have hi1:=List.mem_range.1 hi1;have QS:=List.mem_range.1 QS;have hk:l.toArray[j]! ≠ l.toArray[j-1]! := by
  unfold Lib.keeps at OW;rw [decide_eq_true_eq] at OW;exact OW.resolve_left (by omega)
 have hp:=List.pairwise_iff_getElem.1 h;have h1:=hp (j-1) j (by omega) QS (by omega);rw [yG l j QS,yG l (j-1) (by omega)] at hk;rw [yG l i hi1,yG l j QS]
 by_cases e:i=j-1
 ·subst e;omega
 ·have h2:=hp i (j-1) hi1 (by omega) (by omega);omega
theorem PU (l:List Int) (x:Int):x∈Lib.compact l↔x∈l:=by
 unfold Lib.compact Lib.compactUpTo;rw [List.mem_map]
 constructor
 ·rintro ⟨j,hj,rfl⟩
  have QS:=List.mem_range.1 (List.mem_filter.1 hj).1;rw [yG l j QS];exact List.getElem_mem QS
 ·intro hx;have key:∀j,j<l.length→∃i,i∈(List.range l.length).filter (Lib.keeps l.toArray)∧l.toArray[i]! = l.toArray[j]! := by
   intro j
   induction j with
   |zero=>intro h0;exact ⟨0,List.mem_filter.2 ⟨List.mem_range.2 h0,by simp [Lib.keeps]⟩,rfl⟩
   |succ j ih=>
    intro hj
    by_cases e:l.toArray[j+1]! = l.toArray[j]!
    ·obtain ⟨i,h1,h2⟩:=ih (by omega);exact ⟨i,h1,by rw [h2,e]⟩
    ·exact ⟨j+1,List.mem_filter.2 ⟨List.mem_range.2 hj,by unfold Lib.keeps;rw [decide_eq_true_eq,Nat.add_sub_cancel];exact .inr e⟩,rfl⟩
  obtain ⟨j,hj,rfl⟩:=List.mem_iff_getElem.1 hx;obtain ⟨i,h1,h2⟩:=key j hj;exact ⟨i,h1,by rw [h2,yG l j hj]⟩
def ints (n:Nat):List Int:=(List.range n).map fun i=>((i+1:Nat):Int)
theorem Mc (n:Nat):ints (n+1)=ints n++[((n+1:Nat):Int)]:=by
 unfold ints;rw [List.range_succ,List.map_append];rfl
theorem Zt (n:Nat) (x:Int):x∈ints n↔1≤x∧x≤((n:Nat):Int):=by
 unfold ints;rw [List.mem_map]
 constructor
 ·rintro ⟨i,hi,rfl⟩
  have:=List.mem_range.1 hi;omega
 ·rintro ⟨h1,h2⟩
  exact ⟨(x-1).toNat,List.mem_range.2 (by omega),by omega⟩
theorem G4 (n:Nat):(ints n).Pairwise (· < ·):=by
 unfold ints;rw [List.pairwise_map];exact List.pairwise_lt_range.imp fun h=>by omega
theorem JR:∀(k d:Nat),∃r,ints (k+d)=ints k++r
 |k,0=>⟨[],by simp⟩
 |k,d+1=>by
  obtain ⟨r,h⟩:=JR k d;exact ⟨r++[((k+d+1:Nat):Int)],by rw [show k+(d+1)=(k+d)+1 by omega,Mc,h,List.append_assoc]⟩
theorem RQ (a b:List Int):bK (a++b)=bK a++bK b:=by simp [bK]
theorem PV (a:List Int) (n:Nat):bK (a.take n)=(bK a).take n:=by simp [bK,List.map_take]
theorem tC (a:List Int):cE (bK a)=a:=by simp [cE,bK,Function.comp_def]
def jH (list:aZ) (xs:List (Int×Unit)) (ms:List Int) (s:Int):Bool:=(!hasB list s&&decide (s∈cE xs))||decide (s∈ms)
def nk (list:aZ) (xs:List (Int×Unit)) (ms:List Int):List Int:=((ints 60).filter (jH list xs ms)).take 20
abbrev acG:Type:=aZ×Int×Int×Int×Int×Int×(List (Int×Unit))×Int×Int×Int×Int×Int×(List (Int×Unit))×Int×Int×Int×Int×Int×(List (Int×Unit))×(List (Int×Unit))×Int×Unit
theorem RR (t0 t1 t2 t3 t4:Int) (xs:List (Int×Unit)) (list:aZ) (ms:List Int) (h:list.length≤1048576) (hx:xs.length≤1048576) (hm:rH list t2=some (bK ms,())) (hms:ms.length≤20) :
  eK t0 t1 t2 t3 t4 xs list=some (t0,t1,t2,t3,t4,bK (nk list xs ms),()):=by
 have hml:(bK ms).length≤1048576:=by rw [dZ];omega
 obtain ⟨e,he,rfl⟩:=dU (round:=ns) (x:=(list,t0,t1,t2,t3,t4,xs,(0:Int),(0:Int),(0:Int),(0:Int),(0:Int),[],t0,t1,t2,t3,t4,[],bK ms,((0+1:Nat):Int),())) 60
  (fun k x=>x=(list,t0,t1,t2,t3,t4,xs,(0:Int),(0:Int),(0:Int),(0:Int),(0:Int),[],t0,t1,t2,t3,t4,bK ((ints k).filter (jH list xs ms)),bK ms,((k+1:Nat):Int),())∧((ints k).filter (jH list xs ms)).length≤20)
  (fun e=>e=.inl ((0:Int),(0:Int),(0:Int),(0:Int),(0:Int),[],t0,t1,t2,t3,t4,bK (nk list xs ms),())) (by
   rintro x ⟨rfl,g⟩
   refine ⟨_,?_,rfl⟩;simp only [ns,aX,ax,tl,ak (show ¬((60+1:Nat):Int)≤(60:Int) by omega),cond_false];unfold nk;rw [List.take_of_length_le g]) (by
   rintro k x hk ⟨rfl,g⟩
   have hle:((k+1:Nat):Int)≤(60:Int):=by omega
   have hl:=dZ ((ints k).filter (jH list xs ms))
   by_cases h20:((List.length (bK ((ints k).filter (jH list xs ms))):Nat):Int)<20
   case neg=>
    refine .inl ⟨_,?_,rfl⟩;simp only [ns,aX,ax,tl,aq hle,ak h20,cond_true,cond_false];have:nk list xs ms=(ints k).filter (jH list xs ms):=by
     unfold nk;obtain ⟨r,hr⟩:=JR k (60-k);rw [show k+(60-k)=60 by omega] at hr;rw [hr,List.filter_append];exact List.take_left' (by omega)
    rw [this]
   have Me:(ints (k+1)).filter (jH list xs ms)=(ints k).filter (jH list xs ms)++(if jH list xs ms ((k+1:Nat):Int) then [((k+1:Nat):Int)] else []):=by
    rw [Mc,List.filter_append];rw [List.filter_cons,List.filter_nil]
   have av6:=Ny ((k+1:Nat):Int) xs hx;have an1:=Ny ((k+1:Nat):Int) (bK ms) hml;rw [tC] at an1;have hb:Nat.ble (((bK ((ints k).filter (jH list xs ms))).length+1)*8) lim=true:=aW (by unfold lim;omega);have hsw:=aH (show k+1<4611686018427387904 by omega);simp only [ns,aX,ax,tl,aq hle,aq h20,cond_true,xB list _ h,Option.bind_some,Cf,av6,an1,hb,hsw];have yes:jH list xs ms ((k+1:Nat):Int)=true→∃x':acG,x'=(list,t0,t1,t2,t3,t4,xs,(0:Int),(0:Int),(0:Int),(0:Int),(0:Int),[],t0,t1,t2,t3,t4,bK ((ints k).filter (jH list xs ms))++[(((k+1:Nat):Int),())],bK ms,((k+1+1:Nat):Int),())∧
     (x'=(list,t0,t1,t2,t3,t4,xs,(0:Int),(0:Int),(0:Int),(0:Int),(0:Int),[],t0,t1,t2,t3,t4,bK ((ints (k+1)).filter (jH list xs ms)),bK ms,((k+1+1:Nat):Int),())∧((ints (k+1)).filter (jH list xs ms)).length≤20):=by
    intro hp;refine ⟨_,rfl,?_,?_⟩
    ·rw [Me,hp,if_pos rfl,RQ];rfl
    ·rw [Me,hp,if_pos rfl,List.length_append];simp;omega
   have no:jH list xs ms ((k+1:Nat):Int)=false→∃x':acG,x'=(list,t0,t1,t2,t3,t4,xs,(0:Int),(0:Int),(0:Int),(0:Int),(0:Int),[],t0,t1,t2,t3,t4,bK ((ints k).filter (jH list xs ms)),bK ms,((k+1+1:Nat):Int),())∧
     (x'=(list,t0,t1,t2,t3,t4,xs,(0:Int),(0:Int),(0:Int),(0:Int),(0:Int),[],t0,t1,t2,t3,t4,bK ((ints (k+1)).filter (jH list xs ms)),bK ms,((k+1+1:Nat):Int),())∧((ints (k+1)).filter (jH list xs ms)).length≤20):=by
    intro hp;refine ⟨_,rfl,?_,?_⟩
    ·rw [Me,hp];simp
    ·rw [Me,hp];simp;omega
   have NB:jH list xs ms ((k+1:Nat):Int)=((!(fH list ((k+1:Nat):Int)).isSome&&decide (((k+1:Nat):Int)∈cE xs))||decide (((k+1:Nat):Int)∈ms)):=rfl
   cases c1:(fH list ((k+1:Nat):Int)).isSome
   ·cases c2:decide (((k+1:Nat):Int)∈cE xs)
    ·cases c3:decide (((k+1:Nat):Int)∈ms)
     ·obtain ⟨x',g1,g2⟩:=no (by rw [NB,c1,c2,c3];rfl);exact .inr ⟨x',by rw [g1];rfl,g2⟩
     ·obtain ⟨x',g1,g2⟩:=yes (by rw [NB,c1,c2,c3];rfl);exact .inr ⟨x',by rw [g1];rfl,g2⟩
    ·obtain ⟨x',g1,g2⟩:=yes (by rw [NB,c1,c2];rfl);exact .inr ⟨x',by rw [g1];rfl,g2⟩
   ·cases c3:decide (((k+1:Nat):Int)∈ms)
    ·obtain ⟨x',g1,g2⟩:=no (by rw [NB,c1,c3];rfl);exact .inr ⟨x',by rw [g1];rfl,g2⟩
    ·obtain ⟨x',g1,g2⟩:=yes (by rw [NB,c1,c3];rfl);exact .inr ⟨x',by rw [g1];rfl,g2⟩) ⟨rfl,by simp [ints]⟩
 unfold eK;rw [hm];simp only [Option.bind_some];rw [show (1:Int)=((0+1:Nat):Int) from rfl,he];rfl
def uW (list:aZ) (s:Int):Bool := !hasB list s&&(decide (1≤s)&&decide (s≤60))
theorem RS (t0 t1 t2 t3 t4:Int) (xs:List (Int×Unit)) (list:aZ) (ms:List Int) (h:list.length≤1048576) (hx:xs.length≤1048576) (hm:rU list t2=some (bK ms,())) (hms:ms.length≤20) (hmp:∀s∈ms,1≤s∧s≤60∧hasB list s=false) :
  wK t0 t1 t2 t3 t4 xs list=some (t0,t1,t2,t3,t4,bK (nk list xs ms),()):=by
 have Ts:=bP (round:=nw) (e:=.inl ((0:Int),(0:Int),(0:Int),(0:Int),(0:Int),[],t0,t1,t2,t3,t4,xs,bK (ms++(cE xs).filter (uW list)),())) xs.length
  (fun k=>(list,(0:Int),(0:Int),(0:Int),(0:Int),(0:Int),[],t0,t1,t2,t3,t4,xs,bK (ms++(cE (xs.take k)).filter (uW list)),xs,((List.length xs:Nat):Int),((k:Nat):Int),())) (by
   simp only [nw,aX,xY,aJ,cond_false,List.take_length]) (fun k hk=>by
   have hfl:((cE (xs.take k)).filter (uW list)).length≤1048576:=by
    have h1:=List.length_filter_le (uW list) (cE (xs.take k));have h2:=ln (xs.take k);rw [List.length_take] at h2;omega
   have hl:=dZ (ms++(cE (xs.take k)).filter (uW list));rw [List.length_append] at hl;have Me:(cE (xs.take (k+1))).filter (uW list)=(cE (xs.take k)).filter (uW list)++(if uW list xs[k].1 then [xs[k].1] else []):=by
    rw [List.take_succ_eq_append_getElem hk];unfold cE;rw [List.map_append,List.filter_append,List.map_cons,List.map_nil,List.filter_cons,List.filter_nil]
   have NB:uW list xs[k].1=(!(fH list xs[k].1).isSome&&(decide (1≤xs[k].1)&&decide (xs[k].1≤60))):=rfl;simp only [nw,aX,xY,aD hk,au,cond_true,aC,List.getElem?_eq_getElem hk,Option.bind_some,xC list _ h,Cf,qI,aW (show ((bK (ms++(cE (xs.take k)).filter (uW list))).length+1)*8≤lim by unfold lim;omega),aH (show k<4611686018427387904 by omega),Me]
   cases c1:(fH list xs[k].1).isSome
   ·cases c2:(decide (1≤xs[k].1)&&decide (xs[k].1≤60))
    ·rw [NB,c1,c2];simp
    ·rw [NB,c1,c2];simp [bK]
   ·rw [NB,c1];simp)
 have Ts:aI nw (list,(0:Int),(0:Int),(0:Int),(0:Int),(0:Int),[],t0,t1,t2,t3,t4,xs,bK (ms++(cE (xs.take 0)).filter (uW list)),xs,((List.length xs:Nat):Int),(0:Int),())=_:=Ts;rw [show ms++(cE (xs.take 0)).filter (uW list)=ms by simp [cE]] at Ts;have c2:ey t0 t1 t2 t3 t4 xs=some (t0,t1,t2,t3,t4,xs,()):=by
  unfold ey;rw [kJ xs hx];rfl
 have hwl:(ms++(cE xs).filter (uW list)).length≤1048576+20:=by
  rw [List.length_append];have h1:=List.length_filter_le (uW list) (cE xs);have h2:=ln xs;omega
 generalize hW:ms++(cE xs).filter (uW list)=W at *;have an2:II (bK W)=some (bK (W.mergeSort fun x y=>decide (x≤y)),()):=by
  unfold II;rw [aW (show (bK W).length≤lim by rw [dZ];unfold lim;omega),tC];rfl
 have acI:ru (bK (W.mergeSort fun x y=>decide (x≤y)))=some (bK (Lib.compact (W.mergeSort fun x y=>decide (x≤y))),()):=by
  unfold ru;rw [aW (show (bK (W.mergeSort fun x y=>decide (x≤y))).length≤lim by rw [dZ,List.length_mergeSort];unfold lim;omega),tC];rfl
 have hC:Lib.compact (W.mergeSort fun x y=>decide (x≤y))=(ints 60).filter (jH list xs ms):=by
  refine JP _ _ (JQ _ (abr W)) ((G4 60).filter _) fun z => ?_
  rw [PU,Zs,←hW,List.mem_append,List.mem_filter,List.mem_filter,Zt];unfold uW jH;simp only [Bool.and_eq_true,Bool.or_eq_true,decide_eq_true_eq,Bool.not_eq_true']
  constructor
  ·rintro (h1 | ⟨h1,h2,h3,h4⟩)
   ·exact ⟨⟨(hmp z h1).1,(hmp z h1).2.1⟩,.inr h1⟩
   ·exact ⟨⟨h3,h4⟩,.inl ⟨h2,h1⟩⟩
  ·rintro ⟨⟨h3,h4⟩,⟨h2,h1⟩ | h1⟩
   ·exact .inr ⟨h1,h2,h3,h4⟩
   ·exact .inl h1
 rw [hC] at acI;have hCl:((ints 60).filter (jH list xs ms)).length≤60:=Nat.le_trans (List.length_filter_le _ _) (by simp [ints]);have av7:(if (20:Int)<((List.length (bK ((ints 60).filter (jH list xs ms))):Nat):Int) then (20:Int) else ((List.length (bK ((ints 60).filter (jH list xs ms))):Nat):Int))=((min 20 ((ints 60).filter (jH list xs ms)).length:Nat):Int):=by
  rw [dZ]
  split<;>omega
 have an3:List.take (min 20 ((ints 60).filter (jH list xs ms)).length) (bK ((ints 60).filter (jH list xs ms)))=bK (nk list xs ms):=by
  unfold nk;rw [PV]
  by_cases h20:20≤((ints 60).filter (jH list xs ms)).length
  ·rw [Nat.min_eq_left h20]
  ·rw [Nat.min_eq_right (by omega),List.take_of_length_le (by rw [dZ];omega),List.take_of_length_le (by rw [dZ];omega)]
 have AG:=kJ (bK (nk list xs ms)) (by rw [dZ];unfold nk;rw [List.length_take];omega);unfold wK;delta aF bF;rw [c2,hm];simp only [Option.bind_some];rw [Ts];simp only [oA,an2,acI,Option.bind_some,av7,au,cond_true,aC,List.drop_zero,an3,AG,aq (show ((min 20 ((ints 60).filter (jH list xs ms)).length:Nat):Int)≤((List.length (bK ((ints 60).filter (jH list xs ms))):Nat):Int) by rw [dZ];omega)]
end Go.TM
set_option linter.unusedSimpArgs false
set_option linter.unusedVariables false
namespace Go.TM
open Go
theorem Tt {xs:aZ} {s:Int}:hasB xs s=true↔∃r∈xs,r.1=s:=by
 unfold hasB fH;rw [List.find?_isSome];simp only [decide_eq_true_eq]
theorem Gl {r m:ez}:{xs:aZ}→r∈xs→r∈oc xs m
 | [],h=>by cases h
 |x::xs,h=>by
  unfold oc
  split
  ·rcases List.mem_cons.1 h with rfl | h
   ·exact List.mem_cons_self
   ·exact List.mem_cons_of_mem _ (Gl h)
  ·split
   ·exact h
   ·exact List.mem_cons_of_mem _ h
theorem PW {xs ys:aZ} (hx:xs.length≤1048576) (hy:ys.length≤1048576) (h:∀r∈xs,∃q∈ys,q.1=r.1):dJ xs≤dJ ys:=by
 obtain ⟨_,a1,_⟩:=(Am xs hx).2.2;obtain ⟨_,_,b2⟩:=(Am ys hy).2.2
 by_cases dB:dJ ys<dJ xs
 ·have h1:=a1 _ dB;obtain ⟨r,hr,e⟩:=Tt.1 h1;obtain ⟨q,hq,e2⟩:=h r hr;have:hasB ys ((dJ ys+1:Nat):Int)=true:=Tt.2 ⟨q,hq,e2.trans e⟩;unfold hasB at this;rw [b2] at this
  cases this
 ·omega
def cZ (xs:aZ) (fs:aZ):aZ:=fs.foldl oc xs
theorem vB:(fs:aZ)→{xs:aZ}→fx xs xs.length→(∀f∈fs,qV f)→fx (cZ xs fs) (cZ xs fs).length
 | [],_,h,_=>h
 |f::fs,_,h,hf=>vB fs (An h (hf f List.mem_cons_self)) fun g hg=>hf g (List.mem_cons_of_mem _ hg)
theorem G5 {r:ez}:(fs:aZ)→{xs:aZ}→r∈xs→r∈cZ xs fs
 | [],_,h=>h
 |_::fs,_,h=>G5 fs (Gl h)
theorem RU {c2 d:Int} {lv:cG} {tx:List (ByteArray×Unit)} {k j:Nat} (hc:0≤c2∧c2+((k:Nat):Int)≤60) (hd:1≤d∧d≤5) (hk:k≤tx.length) (hs:la tx tx.length) (hj:j<k):qV (CH c2 d lv tx j):=by
 have h1:j<tx.length:=by omega
 have hgt:(tx.getD j (ByteArray.empty,())).1=tx[j].1:=by rw [List.getD_eq_getElem?_getD,List.getElem?_eq_getElem h1,Option.getD_some]
 refine ⟨⟨?_,?_⟩,hd,?_,?_⟩
 ·show 1≤c2+((j+1:Nat):Int);omega
 ·show c2+((j+1:Nat):Int)≤60;omega
 ·show 1≤(bif decide (j<lv.length)&&decide ((lv.getD j ((0:Int),())).1=2) then (2:Int) else 1)∧(bif decide (j<lv.length)&&decide ((lv.getD j ((0:Int),())).1=2) then (2:Int) else 1)≤2
  cases decide (j<lv.length)&&decide ((lv.getD j ((0:Int),())).1=2)<;>decide
 ·show ByteArray.size (tx.getD j (ByteArray.empty,())).1≤60;rw [hgt];exact hs j h1 h1
theorem G6 {c2 d:Int} {lv:cG} {tx:List (ByteArray×Unit)} {k:Nat} (hc:0≤c2∧c2+((k:Nat):Int)≤60) (hd:1≤d∧d≤5) (hk:k≤tx.length) (hs:la tx tx.length):∀f∈de c2 d lv tx k,qV f:=by
 intro f hf;unfold de at hf;obtain ⟨j,hj,rfl⟩:=List.mem_map.1 hf;exact RU hc hd hk hs (List.mem_range.1 hj)
def qX (t:gN) (xs:aZ):aZ:=xs.filter fun r=>decide (r.1∈cE t.q.1)
theorem Zu (t:gN) (xs:aZ) (h:xs.length≤1048576) (hw:t.q.1.length≤1048576):yo t.1 t.2.1 t.2.2.1 t.2.2.2.1 t.2.2.2.2.1 t.q.1 xs=some (qX t xs,())∧yy t.1 t.2.1 t.2.2.1 t.2.2.2.1 t.2.2.2.2.1 t.q.1 xs=some (qX t xs,()):=by
 have hlen:∀k,((xs.take k).filter fun r=>decide (r.1∈cE t.q.1)).length≤k:=fun k=>Nat.le_trans (List.length_filter_le _ _) (List.length_take_le _ _)
 constructor
 ·have hl:=bP (round:=pg) (e:=.inl (qX t xs,())) xs.length (fun k=>(xs,t.1,t.2.1,t.2.2.1,t.2.2.2.1,t.2.2.2.2.1,t.q.1,(xs.take k).filter (fun r=>decide (r.1∈cE t.q.1)),((k:Nat):Int),())) (by
   simp only [pg,bz,zf,aF,aJ,cond_false,List.take_length,qX]) (fun k hk=>by
   have Hs:=hlen k;simp only [pg,bz,zf,aF,aD hk,au,cond_true,aC,List.getElem?_eq_getElem hk,Option.bind_some,Ny _ _ hw,aW (show (((xs.take k).filter fun r=>decide (r.1∈cE t.q.1)).length+1)*40≤lim by unfold lim;omega),aH (show k<4611686018427387904 by omega)];rw [List.take_succ_eq_append_getElem hk,List.filter_append]
   cases hp:decide (xs[k].1∈cE t.q.1)
   ·rw [List.filter_cons_of_neg (by rw [hp];simp)];simp
   ·rw [List.filter_cons_of_pos (by rw [hp])];rfl)
  have hl:aI pg (xs,t.1,t.2.1,t.2.2.1,t.2.2.2.1,t.2.2.2.2.1,t.q.1,[],(0:Int),())=_:=hl;unfold yo;rw [hl];rfl
 ·have hl:=bP (round:=pq) (e:=.inl (qX t xs,())) xs.length (fun k=>(t.1,t.2.1,t.2.2.1,t.2.2.2.1,t.2.2.2.2.1,t.q.1,(xs.take k).filter (fun r=>decide (r.1∈cE t.q.1)),xs,((List.length xs:Nat):Int),((k:Nat):Int),())) (by
   simp only [pq,bz,zR,aF,aJ,cond_false,List.take_length,qX]) (fun k hk=>by
   have Hs:=hlen k;simp only [pq,bz,zR,aF,aD hk,au,cond_true,aC,List.getElem?_eq_getElem hk,Option.bind_some,Nz _ _ hw,aW (show (((xs.take k).filter fun r=>decide (r.1∈cE t.q.1)).length+1)*40≤lim by unfold lim;omega),aH (show k<4611686018427387904 by omega)];rw [List.take_succ_eq_append_getElem hk,List.filter_append]
   cases hp:decide (xs[k].1∈cE t.q.1)
   ·rw [List.filter_cons_of_neg (by rw [hp];simp)];simp
   ·rw [List.filter_cons_of_pos (by rw [hp])];rfl)
  have hl:aI pq (t.1,t.2.1,t.2.2.1,t.2.2.2.1,t.2.2.2.2.1,t.q.1,[],xs,((List.length xs:Nat):Int),(0:Int),())=_:=hl;unfold yy;rw [hl];rfl
theorem Zv {t:gN} {xs:aZ} {r:ez} (h:r∈qX t xs):r∈xs:=(List.mem_filter.1 h).1
theorem Zw (t:gN) (xs:aZ):(qX t xs).length≤xs.length:=List.length_filter_le _ _
end Go.TM
