/- Sizes, copies, sameness: what the laws' own helping functions answer. -/
import Derived.Test.YtiljcjnnhkidbaaGreatOF3
set_option linter.unusedSimpArgs false
set_option linter.unusedVariables false
namespace Go.TM
open Go
def jK (_:Int×Unit):Nat:=0
def Bc (x:Int×aE×Unit):Nat:=(List.length x.2.1+wl jK x.2.1)
def dD (x:sQ):Nat:=ByteArray.size x.2.2.2.1
def Jo (x:ByteArray×Unit):Nat:=ByteArray.size x.1
def dX (x:lM):Nat:=(List.length x.2.2.2.1+wl dD x.2.2.2.1)
def bu (x:vg):Nat:=(List.length x.2.2.1+wl jK x.2.2.1)+ByteArray.size x.2.2.2.2.2.2.1+(List.length x.2.2.2.2.2.2.2.1+wl jK x.2.2.2.2.2.2.2.1)
end Go.TM
set_option linter.unusedSimpArgs false
set_option linter.unusedVariables false
namespace Go.TM
open Go
def Wy (y:Int×Unit):UInt8:=UInt8.ofNat y.1.toNat
theorem L2 (ys:List (Int×Unit)):(bytesOf ys).data.toList=ys.map Wy:=by
 have key:∀(ys:List (Int×Unit)) (s:ByteArray),(List.foldl (fun (r:ByteArray) (y:Int×Unit)=>r.push (UInt8.ofNat y.1.toNat)) s ys).data.toList=s.data.toList++ys.map Wy:=by
  intro ys
  induction ys with
  |nil=>intro s;simp
  |cons y ys ih=>
   intro s;rw [List.foldl_cons,ih];simp [Wy]
 have:=key ys ByteArray.empty;exact this
theorem DX (ys:List (Int×Unit)):(bytesOf ys).size=ys.length:=by
 have h1:(bytesOf ys).data.toList.length=(bytesOf ys).size:=Array.length_toList;rw [←h1,L2,List.length_map]
end Go.TM
set_option linter.unusedSimpArgs false
set_option linter.unusedVariables false
namespace Go.TM
open Go
theorem Wz {p:Prop} {i:Decidable p} (h:p):@decide p i=true:=decide_eq_true h
theorem Tn {p:Prop} {i:Decidable p} (h:¬p):@decide p i=false:=decide_eq_false h
theorem Ir {α:Type} (f:α→Nat) (c:Nat):(xs:List α)→(∀x∈xs,f x≤c)→wl f xs≤c*xs.length
 | [],_=>Nat.zero_le _
 |x::xs,h=>by
  rw [sb,List.length_cons,Nat.mul_succ];have:=Ir f c xs (fun y hy=>h y (List.mem_cons_of_mem _ hy));have:=h x List.mem_cons_self;omega
end Go.TM
set_option linter.unusedSimpArgs false
set_option linter.unusedVariables false
namespace Go.TM
open Go
theorem mv (a b c:Int):bM a b c=some (decide (b≤a)&&decide (a≤c),()):=by
 unfold bM
 cases decide (b≤a)<;>rfl
theorem vY (a b c:Int):cC a b c=some (decide (b≤a)&&decide (a≤c),()):=by
 unfold cC
 cases decide (b≤a)<;>rfl
theorem pG (a:Int):ic a=some (decide (1≤a)&&decide (a≤5),()):=by
 unfold ic;rw [vY];rfl
def Gt {A B:Type}:Sum A (Bool×Unit)→Sum B (Bool×Unit)→Prop
 |.inl _,.inl _=>True
 |.inr a,.inr b=>a.1=b.1
 |_,_=>False
theorem uQ {k:Nat} (h0:0<k) (h:k<4611686018427387904):IntKind.i64.wrap (((k:Nat):Int)-(1:Int))=(((k-1:Nat)):Int):=by
 rw [dH]<;>omega
theorem To (c:Int) (xs:List (Int×Unit)) (h:xs.length≤1048576) :
  ∃e f,aI gj (c,xs,(0:Int),())=some e∧aI nC (c,xs,xs,((List.length xs:Nat):Int),(0:Int),())=some f∧Gt e f:=by
 refine pW xs.length (fun k x y=>x=(c,xs,((k:Nat):Int),())∧y=(c,xs,xs,((List.length xs:Nat):Int),((k:Nat):Int),())) Gt ?_ ⟨rfl,rfl⟩
 rintro k x y hk ⟨rfl,rfl⟩
 by_cases dS:k<xs.length
 ·simp only [gj,nt,nC,aw,vK,aD dS,ax,cond_true,aF,List.getElem?_eq_getElem dS,Option.bind_some,mv,pG,aN (show k<4611686018427387904 by omega)]
  cases (decide (1≤xs[k].1)&&decide (xs[k].1≤5))
  ·exact .inl ⟨.inr (false,()),.inr (false,()),rfl,rfl,rfl⟩
  ·by_cases h0:0<k
   ·have hp:k-1<xs.length:=by omega
    rw [uQ h0 (by omega)];simp only [ak (show (0:Int)<((k:Nat):Int) by omega),Bool.not_true,cond_false,cond_true,ax,aF,List.getElem?_eq_getElem hp,Option.bind_some]
    cases decide (xs[k].1≤xs[k-1].1)
    ·exact .inr ⟨dS,_,_,rfl,rfl,rfl,rfl⟩
    ·exact .inl ⟨.inr (false,()),.inr (false,()),rfl,rfl,rfl⟩
   ·have:k=0:=by omega
    subst this;simp only [aq (show ¬(0:Int)<((0:Nat):Int) by omega),Bool.not_true,cond_false];exact .inr ⟨dS,_,_,rfl,rfl,rfl,rfl⟩
 ·have:k=xs.length:=by omega
  subst this;exact .inl ⟨.inl (),.inl (),by simp only [gj,nt,aM,cond_false],by simp only [nC,aw,vK,aM,cond_false],trivial⟩
theorem BC (c:Int) (xs:List (Int×Unit)) (h:xs.length≤1048576):∃b,dW c xs=some (b,())∧jc c xs=some (b,())∧(b=true→1≤xs.length∧xs.length≤5):=by
 obtain ⟨e,f,h1,h2,h3⟩:=To c xs h;unfold dW jc;simp only [mv,vY,Option.bind_some,h1,h2]
 cases (decide (1≤c)&&decide (c≤9))
 ·exact ⟨false,rfl,rfl,fun h=>by cases h⟩
 cases hb:(decide (1≤((List.length xs:Nat):Int))&&decide (((List.length xs:Nat):Int)≤5))
 ·exact ⟨false,rfl,rfl,fun h=>by cases h⟩
 have hl:1≤xs.length∧xs.length≤5:=by
  rw [Bool.and_eq_true,decide_eq_true_eq,decide_eq_true_eq] at hb;omega
 cases e with
 |inl e=>cases f with
  |inl f=>exact ⟨true,rfl,rfl,fun _=>hl⟩
  |inr f=>exact h3.elim
 |inr e=>cases f with
  |inl f=>exact h3.elim
  |inr f=>exact ⟨e.1,rfl,by rw [show e.1=f.1 from h3];rfl,fun _=>hl⟩
end Go.TM
set_option linter.unusedSimpArgs false
set_option linter.unusedVariables false
namespace Go.TM
open Go
def ZR (e:Sum Unit (Bool×Unit)) (f:Sum Unit (Int×Unit)):Prop:=∃b,(e=.inl ()∧f=.inl ()∧b=false)∨(e=.inr (true,())∧(∃k:Nat,f=.inr (((k:Nat):Int),()))∧b=true)
theorem YK (d:Int) (xs:List (Int×Unit)) (h:xs.length≤1048576) :
  ∃e f,aI eI (xs,d,(0:Int),())=some e∧aI iU (xs,d,((List.length xs:Nat):Int),(0:Int),())=some f∧ZR e f:=by
 refine pW xs.length (fun k x y=>x=(xs,d,((k:Nat):Int),())∧y=(xs,d,((List.length xs:Nat):Int),((k:Nat):Int),())) ZR ?_ ⟨rfl,rfl⟩
 rintro k x y hk ⟨rfl,rfl⟩
 by_cases dS:k<xs.length
 ·simp only [eI,kI,iU,aw,ot,aD dS,ax,cond_true,aF,List.getElem?_eq_getElem dS,Option.bind_some,aN (show k<4611686018427387904 by omega)]
  by_cases hd:xs[k].1=d
  ·rw [ak hd,ak hd.symm];exact .inl ⟨.inr (true,()),.inr (((k:Nat):Int),()),rfl,rfl,true,.inr ⟨rfl,⟨k,rfl⟩,rfl⟩⟩
  ·rw [aq hd,aq (fun e=>hd e.symm)];exact .inr ⟨dS,_,_,rfl,rfl,rfl,rfl⟩
 ·have:k=xs.length:=by omega
  subst this;exact .inl ⟨.inl (),.inl (),by simp only [eI,kI,aM,cond_false],by simp only [iU,aw,ot,aM,cond_false],false,.inl ⟨rfl,rfl,rfl⟩⟩
theorem oQ (d:Int) (xs:List (Int×Unit)) (h:xs.length≤1048576):∃b,dm xs d=some (b,())∧dy xs d=some (b,()):=by
 obtain ⟨e,f,h1,h2,b,h3⟩:=YK d xs h;unfold dm dy rL;rw [h1,h2];rcases h3 with ⟨rfl,rfl,rfl⟩ | ⟨rfl,⟨k,rfl⟩,rfl⟩
 ·exact ⟨false,rfl,rfl⟩
 ·refine ⟨true,rfl,?_⟩;simp only [bW,Option.bind_some,ax]
end Go.TM
set_option linter.unusedSimpArgs false
set_option linter.unusedVariables false
namespace Go.TM
open Go
def WA (t:Int×Int×Int×Int×Int×(List (Int×Unit))×Unit):Sum Unit (Bool×Unit)→Sum (Int×Int×Int×Int×Int×(List (Int×Unit))×Unit) (Bool×Unit)→Prop
 |.inl _,.inl z=>z=t
 |.inr a,.inr b=>a.1=false∧b.1=false
 |_,_=>False
theorem PX (c0 c1 c2 c3 c4:Int) (xs:List (Int×Unit)) (h:xs.length≤1048576) :
  ∃e f,aI fN (c0,c1,c2,c3,c4,xs,(0:Int),())=some e∧aI mo (c0,c1,c2,c3,c4,xs,xs,((List.length xs:Nat):Int),(0:Int),())=some f∧WA (c0,c1,c2,c3,c4,xs,()) e f:=by
 refine pW xs.length (fun k x y=>x=(c0,c1,c2,c3,c4,xs,((k:Nat):Int),())∧y=(c0,c1,c2,c3,c4,xs,xs,((List.length xs:Nat):Int),((k:Nat):Int),())) (WA (c0,c1,c2,c3,c4,xs,())) ?_ ⟨rfl,rfl⟩
 rintro k x y hk ⟨rfl,rfl⟩
 by_cases dS:k<xs.length
 ·simp only [fN,aP,mi,mo,bC,tz,aD dS,ax,cond_true,aF,List.getElem?_eq_getElem dS,Option.bind_some,mv,vY,aN (show k<4611686018427387904 by omega)]
  cases (decide (1≤xs[k].1)&&decide (xs[k].1≤c2))
  ·exact .inl ⟨.inr (false,()),.inr (false,()),rfl,rfl,rfl,rfl⟩
  ·by_cases h0:0<k
   ·have hp:k-1<xs.length:=by omega
    rw [uQ h0 (by omega)];simp only [ak (show (0:Int)<((k:Nat):Int) by omega),Bool.not_true,cond_false,cond_true,ax,aF,List.getElem?_eq_getElem hp,Option.bind_some]
    cases decide (xs[k].1≤xs[k-1].1)
    ·exact .inr ⟨dS,_,_,rfl,rfl,rfl,rfl⟩
    ·exact .inl ⟨.inr (false,()),.inr (false,()),rfl,rfl,rfl,rfl⟩
   ·have:k=0:=by omega
    subst this;simp only [aq (show ¬(0:Int)<((0:Nat):Int) by omega),Bool.not_true,cond_false];exact .inr ⟨dS,_,_,rfl,rfl,rfl,rfl⟩
 ·have:k=xs.length:=by omega
  subst this;exact .inl ⟨.inl (),.inl (c0,c1,c2,c3,c4,xs,()),by simp only [fN,aP,mi,aM,cond_false],by simp only [mo,bC,tz,aM,cond_false],rfl⟩
theorem vZ (c0 c1 c2 c3 c4:Int) (xs:List (Int×Unit)) (h:xs.length≤1048576):∃b,eQ c0 c1 c2 c3 c4 xs=some (b,())∧ie c0 c1 c2 c3 c4 xs=some (b,())∧(b=true→0≤c2∧c2≤60∧0≤c3∧c3≤c2∧xs.length≤20∧(∀y∈[c0,c1],1≤y)):=by
 obtain ⟨e,f,h1,h2,h3⟩:=PX c0 c1 c2 c3 c4 xs h;unfold eQ ie;simp only [mv,vY,Option.bind_some,h1,h2]
 cases q0:(decide (1≤c0)&&decide (c0≤9))
 ·exact ⟨false,rfl,rfl,fun h=>by cases h⟩
 cases q1:(decide (1≤c1)&&decide (c1≤1000000000))
 ·exact ⟨false,rfl,rfl,fun h=>by cases h⟩
 cases q2:(decide (0≤c2)&&decide (c2≤60))
 ·exact ⟨false,rfl,rfl,fun h=>by cases h⟩
 cases e with
 |inl e=>cases f with
  |inl f=>
   have h3:f=(c0,c1,c2,c3,c4,xs,()):=h3;subst h3;simp only [bW,Option.bind_some,vY,Bool.not_true,cond_false]
   cases q3:(decide (0≤c3)&&decide (c3≤c2))
   ·exact ⟨false,rfl,rfl,fun h=>by cases h⟩
   cases (decide (0≤c4)&&decide (c4≤5))
   ·exact ⟨false,rfl,rfl,fun h=>by cases h⟩
   by_cases hl:((List.length xs:Nat):Int)≤20
   ·rw [ak hl,aq (show ¬(20:Int)<((List.length xs:Nat):Int) by omega)];refine ⟨true,rfl,rfl,fun _ => ?_⟩;rw [Bool.and_eq_true,decide_eq_true_eq,decide_eq_true_eq] at q0 q1 q2 q3;refine ⟨q2.1,q2.2,q3.1,q3.2,by omega,fun y hy => ?_⟩;rcases List.mem_cons.1 hy with rfl | hy
    ·exact q0.1
    ·rcases List.mem_cons.1 hy with rfl | hy
     ·exact q1.1
     ·cases hy
   ·rw [aq hl,ak (show (20:Int)<((List.length xs:Nat):Int) by omega)];exact ⟨false,rfl,rfl,fun h=>by cases h⟩
  |inr f=>exact h3.elim
 |inr e=>cases f with
  |inl f=>exact h3.elim
  |inr f=>
   obtain ⟨e1,e2⟩:=(show e.1=false∧f.1=false from h3);refine ⟨false,?_,by rw [←e2];rfl,fun h=>by cases h⟩
   cases (decide (0≤c3)&&decide (c3≤c2))
   ·rfl
   cases (decide (0≤c4)&&decide (c4≤5))
   ·rfl
   cases decide ((20:Int)<((List.length xs:Nat):Int))
   ·show some (e.1,())=some (false,());rw [e1]
   ·rfl
theorem lA (xs:List (Int×Unit)) (h:xs.length≤1048576):dE xs=some (xs,()):=by
 unfold dE;rw [aT (show (0+xs.length)*8≤lim by unfold lim;omega)];rfl
theorem l9 (c0 c1 c2 c3 c4:Int) (xs:List (Int×Unit)) (h:xs.length≤1048576):bw c0 c1 c2 c3 c4 xs=some (c0,c1,c2,c3,c4,xs,())∧fi c0 c1 c2 c3 c4 xs=some (c0,c1,c2,c3,c4,xs,()):=by
 constructor
 ·unfold bw;rw [aT (show (0+xs.length)*8≤lim by unfold lim;omega)];rfl
 ·unfold fi;rw [lA xs h];rfl
def zo (c2:Int) (xs:List (Int×Unit)) (n:Nat):Prop:=∀k (h:k<xs.length),k<n→1≤xs[k].1∧xs[k].1≤c2∧∀h0:0<k,xs[k-1].1<xs[k].1
def afz (c0 c1 c2 c3 c4:Int) (xs:List (Int×Unit)):Prop:=(1≤c0∧c0≤9)∧(1≤c1∧c1≤1000000000)∧(0≤c2∧c2≤60)∧(0≤c3∧c3≤c2)∧(0≤c4∧c4≤5)∧xs.length≤20∧zo c2 xs xs.length
theorem KR (c0 c1 c2 c3 c4:Int) (xs:List (Int×Unit)) (h:xs.length≤1048576):∃b,eQ c0 c1 c2 c3 c4 xs=some (b,())∧ie c0 c1 c2 c3 c4 xs=some (b,())∧(b=true↔afz c0 c1 c2 c3 c4 xs):=by
 obtain ⟨b,h1,h2,_⟩:=vZ c0 c1 c2 c3 c4 xs h;refine ⟨b,h1,h2,?_⟩;obtain ⟨e,he,hq⟩:=dA (round:=fN) (x:=(c0,c1,c2,c3,c4,xs,((0:Nat):Int),())) xs.length (fun k x=>x=(c0,c1,c2,c3,c4,xs,((k:Nat):Int),())∧zo c2 xs k)
  (fun e=>(e=.inl ()∧zo c2 xs xs.length)∨(e=.inr (false,())∧¬zo c2 xs xs.length)) (by
   rintro x ⟨rfl,g⟩
   exact ⟨.inl (),by simp only [fN,aP,mi,aM,cond_false],.inl ⟨rfl,g⟩⟩) (by
   rintro k x dS ⟨rfl,g⟩
   simp only [fN,aP,mi,aD dS,ax,cond_true,aF,List.getElem?_eq_getElem dS,Option.bind_some,mv,aN (show k<4611686018427387904 by omega)];have more:1≤xs[k].1→xs[k].1≤c2→(∀h0:0<k,xs[k-1].1<xs[k].1)→zo c2 xs (k+1):=by
    intro w1 w2 w3 j hj M9
    by_cases e:j<k
    ·exact g j hj e
    ·have:j=k:=by omega
     subst this;exact ⟨w1,w2,w3⟩
   cases Hc:(decide (1≤xs[k].1)&&decide (xs[k].1≤c2))
   ·refine .inl ⟨.inr (false,()),rfl,.inr ⟨rfl,fun hn => ?_⟩⟩;obtain ⟨w1,w2,_⟩:=hn k dS dS;rw [ak w1,ak w2] at Hc
    cases Hc
   ·rw [Bool.and_eq_true,decide_eq_true_eq,decide_eq_true_eq] at Hc
    by_cases h0:0<k
    ·have hp:k-1<xs.length:=by omega
     rw [uQ h0 (by omega)];simp only [ak (show (0:Int)<((k:Nat):Int) by omega),Bool.not_true,cond_false,cond_true,ax,aF,List.getElem?_eq_getElem hp,Option.bind_some]
     by_cases hd:xs[k].1≤xs[k-1].1
     ·rw [ak hd];refine .inl ⟨.inr (false,()),rfl,.inr ⟨rfl,fun hn => ?_⟩⟩;have:=(hn k dS dS).2.2 h0;omega
     ·rw [aq hd];exact .inr ⟨_,rfl,rfl,more Hc.1 Hc.2 (fun _=>by omega)⟩
    ·have:k=0:=by omega
     subst this;simp only [aq (show ¬(0:Int)<((0:Nat):Int) by omega),Bool.not_true,cond_false];exact .inr ⟨_,rfl,rfl,more Hc.1 Hc.2 (fun h0=>absurd h0 (Nat.lt_irrefl 0))⟩) ⟨rfl,fun j _ h=>by omega⟩
 have he:aI fN (c0,c1,c2,c3,c4,xs,(0:Int),())=some e:=he;unfold eQ at h1;simp only [mv,Option.bind_some,he] at h1;have no:∀ {p:Prop},(some (false,()):Option (Bool×Unit))=some (b,())→¬p→(b=true↔p):=by
  intro p e1 hp;injection e1 with e1;injection e1 with e1;subst e1;exact ⟨(fun h=>by cases h),fun h=>absurd h hp⟩
 have yes:∀ {p:Prop},(some (true,()):Option (Bool×Unit))=some (b,())→p→(b=true↔p):=by
  intro p e1 hp;injection e1 with e1;injection e1 with e1;subst e1;exact ⟨fun _=>hp,fun _=>rfl⟩
 by_cases q0:1≤c0∧c0≤9
 case neg=>
  rw [show (decide (1≤c0)&&decide (c0≤9))=false by rw [Bool.and_eq_false_iff,decide_eq_false_iff_not,decide_eq_false_iff_not];omega] at h1;exact no h1 (fun h=>q0 h.1)
 rw [ak q0.1,ak q0.2] at h1
 by_cases q1:1≤c1∧c1≤1000000000
 case neg=>
  rw [show (decide (1≤c1)&&decide (c1≤1000000000))=false by rw [Bool.and_eq_false_iff,decide_eq_false_iff_not,decide_eq_false_iff_not];omega] at h1;exact no h1 (fun h=>q1 h.2.1)
 rw [ak q1.1,ak q1.2] at h1
 by_cases q2:0≤c2∧c2≤60
 case neg=>
  rw [show (decide (0≤c2)&&decide (c2≤60))=false by rw [Bool.and_eq_false_iff,decide_eq_false_iff_not,decide_eq_false_iff_not];omega] at h1;exact no h1 (fun h=>q2 h.2.2.1)
 rw [ak q2.1,ak q2.2] at h1
 by_cases q3:0≤c3∧c3≤c2
 case neg=>
  rw [show (decide (0≤c3)&&decide (c3≤c2))=false by rw [Bool.and_eq_false_iff,decide_eq_false_iff_not,decide_eq_false_iff_not];omega] at h1;exact no h1 (fun h=>q3 h.2.2.2.1)
 rw [ak q3.1,ak q3.2] at h1
 by_cases q4:0≤c4∧c4≤5
 case neg=>
  rw [show (decide (0≤c4)&&decide (c4≤5))=false by rw [Bool.and_eq_false_iff,decide_eq_false_iff_not,decide_eq_false_iff_not];omega] at h1;exact no h1 (fun h=>q4 h.2.2.2.2.1)
 rw [ak q4.1,ak q4.2] at h1
 by_cases q5:(20:Int)<((List.length xs:Nat):Int)
 ·rw [ak q5] at h1;exact no h1 (fun h=>by have:=h.2.2.2.2.2.1;omega)
 rw [aq q5] at h1;rcases hq with ⟨rfl,q⟩ | ⟨rfl,q⟩
 ·exact yes h1 ⟨q0,q1,q2,q3,q4,by omega,q⟩
 ·exact no h1 (fun h=>q h.2.2.2.2.2.2)
end Go.TM
set_option linter.unusedSimpArgs false
set_option linter.unusedVariables false
namespace Go.TM
open Go
theorem DY (a:Int):nW a=some (decide (1≤a)&&decide (a≤2),()):=by
 unfold nW
 by_cases h1:a=1
 ·subst h1;rfl
 by_cases h2:a=2
 ·subst h2;rfl
 have e:(decide (1≤a)&&decide (a≤2))=false:=by
  rw [Bool.and_eq_false_iff,decide_eq_false_iff_not,decide_eq_false_iff_not];omega
 rw [e,aq h1,aq h2];rfl
theorem Tp (a b c:Int) (s:ByteArray):∃x,ko a b c s=some (x,())∧lP a b c s=some (x,()):=by
 unfold ko lP;simp only [mv,vY,pG,DY,Option.bind_some]
 cases (decide (1≤a)&&decide (a≤60))
 ·exact ⟨_,rfl,rfl⟩
 cases (decide (1≤b)&&decide (b≤5))
 ·exact ⟨_,rfl,rfl⟩
 cases (decide (1≤c)&&decide (c≤2))
 ·exact ⟨_,rfl,rfl⟩
 ·exact ⟨_,rfl,rfl⟩
theorem PY (xs:List (Int×Int×Int×ByteArray×Unit)) (h:xs.length≤1048576) :
  ∃e f,aI fM (xs,(0:Int),())=some e∧aI mn (xs,xs,((List.length xs:Nat):Int),(0:Int),())=some f∧Gt e f:=by
 refine pW xs.length (fun k x y=>x=(xs,((k:Nat):Int),())∧y=(xs,xs,((List.length xs:Nat):Int),((k:Nat):Int),())) Gt ?_ ⟨rfl,rfl⟩
 rintro k x y hk ⟨rfl,rfl⟩
 by_cases dS:k<xs.length
 ·obtain ⟨b,r1,r2⟩:=Tp xs[k].1 xs[k].2.1 xs[k].2.2.1 xs[k].2.2.2.1;simp only [fM,mh,aw,mn,aw,tw,aw,aD dS,ax,cond_true,aF,List.getElem?_eq_getElem dS,Option.bind_some,r1,r2,aN (show k<4611686018427387904 by omega)]
  cases b
  ·exact .inl ⟨.inr (false,()),.inr (false,()),rfl,rfl,rfl⟩
  ·by_cases h0:0<k
   ·have hp:k-1<xs.length:=by omega
    rw [uQ h0 (by omega)];simp only [ak (show (0:Int)<((k:Nat):Int) by omega),Bool.not_true,cond_false,cond_true,ax,aF,List.getElem?_eq_getElem hp,Option.bind_some]
    cases decide (xs[k].1≤xs[k-1].1)
    ·exact .inr ⟨dS,_,_,rfl,rfl,rfl,rfl⟩
    ·exact .inl ⟨.inr (false,()),.inr (false,()),rfl,rfl,rfl⟩
   ·have:k=0:=by omega
    subst this;simp only [aq (show ¬(0:Int)<((0:Nat):Int) by omega),Bool.not_true,cond_false];exact .inr ⟨dS,_,_,rfl,rfl,rfl,rfl⟩
 ·have:k=xs.length:=by omega
  subst this;exact .inl ⟨.inl (),.inl (),by simp only [fM,mh,aw,aM,cond_false],by simp only [mn,aw,tw,aw,aM,cond_false],trivial⟩
theorem CL (xs:List (Int×Int×Int×ByteArray×Unit)) (h:xs.length≤1048576):∃b,gl xs=some (b,())∧iZ xs=some (b,()):=by
 obtain ⟨e,f,h1,h2,h3⟩:=PY xs h;unfold gl iZ;rw [h1,h2]
 cases e with
 |inl e=>cases f with
  |inl f=>exact ⟨true,rfl,rfl⟩
  |inr f=>exact h3.elim
 |inr e=>cases f with
  |inl f=>exact h3.elim
  |inr f=>exact ⟨e.1,rfl,by rw [show e.1=f.1 from h3];rfl⟩
abbrev dY:Type:=Int×Int×Int×ByteArray×Unit
abbrev aW:Type:=List dY
def fk (xs:aW) (s:Int):Option dY:=xs.find? fun r=>decide (r.1=s)
def qK:Option dY→Int×Int×Int×ByteArray×Bool×Unit
 |none=>(0,0,0,ByteArray.empty,false,())
 |some r=>(r.1,r.2.1,r.2.2.1,r.2.2.2.1,true,())
def Rb:Option dY→Sum (Int×Int×Int×ByteArray×Unit) (Int×Int×Int×ByteArray×Bool×Unit)
 |none=>.inl (0,0,0,ByteArray.empty,())
 |some r=>.inr (qK (some r))
theorem KS (xs:aW) (s:Int) {k:Nat} (hk:k<xs.length):fk (xs.drop k) s=if xs[k].1=s then some xs[k] else fk (xs.drop (k+1)) s:=by
 unfold fk;rw [List.drop_eq_getElem_cons hk,List.find?_cons]
 by_cases h:xs[k].1=s
 ·rw [ak h,if_pos h]
 ·rw [aq h,if_neg h]
theorem wJ (xs:aW) (s:Int) (h:xs.length≤1048576):nu xs s=some (qK (fk xs s)):=by
 have hl:=sy (round:=lf) (n:=xs.length) (fun k=>(xs,s,(0:Int),(0:Int),(0:Int),ByteArray.empty,((k:Nat):Int),())) (fun k=>some (Rb (fk (xs.drop k) s)))
  ⟨.inl (0,0,0,ByteArray.empty,()),by simp only [lf,aP,vk,aA,aM,cond_false],by rw [List.drop_length];rfl⟩ (fun k hk=>by
   rw [KS xs s hk];simp only [lf,aP,vk,aA,aD hk,ax,cond_true,aF,List.getElem?_eq_getElem hk,Option.bind_some,aN (show k<4611686018427387904 by omega)]
   by_cases h:xs[k].1=s
   ·rw [ak h,if_pos h];exact .inl ⟨_,rfl,rfl⟩
   ·rw [aq h,if_neg h];exact .inr ⟨rfl,rfl⟩) 0 (Nat.zero_le _)
 unfold nu;have hl:aI lf (xs,s,(0:Int),(0:Int),(0:Int),ByteArray.empty,(0:Int),())=_:=hl;rw [hl,List.drop_zero]
 cases fk xs s<;>rfl
theorem wK (xs:aW) (s:Int) (h:xs.length≤1048576):nD xs s=some (qK (fk xs s)):=by
 have hl:=sy (round:=lx) (n:=xs.length) (fun k=>(s,(0:Int),(0:Int),(0:Int),ByteArray.empty,xs,((List.length xs:Nat):Int),((k:Nat):Int),())) (fun k=>some (Rb (fk (xs.drop k) s)))
  ⟨.inl (0,0,0,ByteArray.empty,()),by simp only [lx,bC,vL,aA,aM,cond_false],by rw [List.drop_length];rfl⟩ (fun k hk=>by
   rw [KS xs s hk];simp only [lx,bC,vL,aA,aD hk,ax,cond_true,aF,List.getElem?_eq_getElem hk,Option.bind_some,aN (show k<4611686018427387904 by omega)]
   by_cases h:xs[k].1=s
   ·rw [ak h,if_pos h];exact .inl ⟨_,rfl,rfl⟩
   ·rw [aq h,if_neg h];exact .inr ⟨rfl,rfl⟩) 0 (Nat.zero_le _)
 unfold nD;have hl:aI lx (s,(0:Int),(0:Int),(0:Int),ByteArray.empty,xs,((List.length xs:Nat):Int),(0:Int),())=_:=hl;rw [hl,List.drop_zero]
 cases fk xs s<;>rfl
theorem FU:(n:Nat)→(ys:List Int)→(∀i,i<n→((i+1:Nat):Int)∈ys)→n≤ys.length
 |0,_,_=>Nat.zero_le _
 |n+1,ys,h=>by
  have hm:=h n (by omega);have:=FU n (ys.erase ((n+1:Nat):Int)) (fun i hi=>(List.mem_erase_of_ne (by omega)).2 (h i (by omega)));rw [List.length_erase_of_mem hm] at this;have:0<ys.length:=List.length_pos_of_mem hm;omega
theorem CM {xs:aW} {s:Int} {r:dY} (h:fk xs s=some r):r∈xs∧r.1=s:=by
 unfold fk at h;exact ⟨List.mem_of_find?_eq_some h,by have:=List.find?_some h;simpa using this⟩
def Rc (xs:aW) (n:Nat):Prop:=n≤xs.length∧(∀i,i<n→(fk xs ((i+1:Nat):Int)).isSome=true)∧fk xs ((n+1:Nat):Int)=none
theorem YL {xs:aW} (h:∀i,i<xs.length→(fk xs ((i+1:Nat):Int)).isSome=true):fk xs ((xs.length+1:Nat):Int)=none:=by
 cases hq:fk xs ((xs.length+1:Nat):Int) with
 |none=>rfl
 |some r=>
  have key:=FU (xs.length+1) (xs.map (·.1)) (fun i hi=>by
   have:∃r,fk xs ((i+1:Nat):Int)=some r:=by
    by_cases XH:i<xs.length
    ·exact Option.isSome_iff_exists.1 (h i XH)
    ·have:i=xs.length:=by omega
     subst this;exact ⟨r,hq⟩
   obtain ⟨r',hr⟩:=this;obtain ⟨m1,m2⟩:=CM hr;exact List.mem_map.2 ⟨r',m1,m2⟩)
  rw [List.length_map] at key;omega
theorem DZ (xs:aW) (h:xs.length≤1048576):∃n:Nat,gX xs=some (((n:Nat):Int),())∧jH xs=some (((n:Nat):Int),())∧Rc xs n:=by
 obtain ⟨e,f,h1,h2,n,h3⟩:∃e f,aI sf (xs,(0:Int),(0:Int),())=some e∧aI sn (xs,(0:Int),())=some f∧∃n:Nat,(e=.inl (((n:Nat):Int),())∨e=.inr (((n:Nat):Int),()))∧f=.inr (((n:Nat):Int),())∧Rc xs n:=by
  refine pW xs.length (fun k x y=>x=(xs,((k:Nat):Int),((k:Nat):Int),())∧y=(xs,((k:Nat):Int),())∧∀i,i<k→(fk xs ((i+1:Nat):Int)).isSome=true) _ ?_ ⟨rfl,rfl,fun i hi=>by omega⟩
  rintro k x y hk ⟨rfl,rfl,ri⟩
  simp only [sf,B4,sn,B5,aN (show k<4611686018427387904 by omega),wJ xs _ h,wK xs _ h,Option.bind_some]
  by_cases dS:k<xs.length
  ·rw [aD dS]
   cases hq:fk xs ((k+1:Nat):Int) with
   |none=>exact .inl ⟨.inr (((k:Nat):Int),()),.inr (((k:Nat):Int),()),rfl,rfl,k,.inr rfl,rfl,hk,ri,hq⟩
   |some r=>
    refine .inr ⟨dS,_,_,rfl,rfl,rfl,rfl,fun i hi => ?_⟩
    by_cases XH:i<k
    ·exact ri i XH
    ·have:i=k:=by omega
     subst this;rw [hq];rfl
  ·have:k=xs.length:=by omega
   subst this;have hq:=YL ri;rw [aM,hq];exact .inl ⟨.inl (((xs.length:Nat):Int),()),.inr (((xs.length:Nat):Int),()),rfl,rfl,xs.length,.inl rfl,rfl,hk,ri,hq⟩
 obtain ⟨h3,rfl,h4⟩:=h3;unfold gX jH;rw [h1,h2];refine ⟨n,?_,rfl,h4⟩;rcases h3 with rfl | rfl<;>rfl
end Go.TM
set_option linter.unusedSimpArgs false
set_option linter.unusedVariables false
namespace Go.TM
open Go
abbrev EvR:Type:=Int×Int×(List (Int×Unit))×Int×Int×Int×ByteArray×(List (Int×Unit))×Unit
theorem Is (xs:List EvR) {k:Nat} (hk:k<xs.length) (h:xs.length+wl bu xs≤1048576):xs[k].2.2.1.length≤1048576∧xs[k].2.2.2.2.2.2.2.1.length≤1048576:=by
 have hw:=Hw bu xs xs[k] (List.getElem_mem hk);have:bu xs[k]=(List.length xs[k].2.2.1+wl jK xs[k].2.2.1)+ByteArray.size xs[k].2.2.2.2.2.2.1+(List.length xs[k].2.2.2.2.2.2.2.1+wl jK xs[k].2.2.2.2.2.2.2.1):=rfl;omega
theorem pb (xs:List EvR) (h:xs.length+wl bu xs≤1048576):cT xs=some (xs,()):=by
 have hl:=ca (round:=cR) (e:=.inl (xs,())) xs.length (fun k=>(xs,xs.take k,((k:Nat):Int),())) (by
  simp only [cR,gQ,aA,aM,cond_false,List.take_length]) (fun k hk=>by
  obtain ⟨e1,e2⟩:=Is xs hk h;simp only [cR,gQ,aA,aD hk,ax,cond_true,aF,List.getElem?_eq_getElem hk,Option.bind_some,List.length_take,Nat.min_eq_left (Nat.le_of_lt hk),aT (show (0+xs[k].2.2.1.length)*8≤lim by unfold lim;omega),aT (show (0+xs[k].2.2.2.2.2.2.2.1.length)*8≤lim by unfold lim;omega),aT (show (k+1)*104≤lim by unfold lim;omega),aN (show k<4611686018427387904 by omega),List.nil_append];rw [List.take_succ_eq_append_getElem hk])
 have hl:aI cR (xs,[],(0:Int),())=_:=hl;unfold cT;rw [hl];rfl
theorem zR (xs:List EvR) (h:xs.length+wl bu xs≤1048576):qD xs=some (xs,()):=by
 have hl:=ca (round:=ka) (e:=.inl (xs,())) xs.length (fun k=>(xs.take k,xs,((xs.length:Nat):Int),((k:Nat):Int),())) (by
  simp only [ka,aw,tC,bC,ev,aM,cond_false,List.take_length]) (fun k hk=>by
  obtain ⟨e1,e2⟩:=Is xs hk h;simp only [ka,aw,tC,bC,ev,vN,cB,lA _ e1,lA _ e2,aD hk,ax,cond_true,aF,List.getElem?_eq_getElem hk,Option.bind_some,List.length_take,Nat.min_eq_left (Nat.le_of_lt hk),aT (show (k+1)*104≤lim by unfold lim;omega),aN (show k<4611686018427387904 by omega)];rw [List.take_succ_eq_append_getElem hk])
 have hl:aI ka ([],xs,((xs.length:Nat):Int),(0:Int),())=_:=hl;unfold qD;rw [hl];rfl
end Go.TM
set_option linter.unusedSimpArgs false
set_option linter.unusedVariables false
namespace Go.TM
open Go
theorem FV (a b c:Int) (xs:List (Int×Int×Int×ByteArray×Unit)) (h:xs.length≤1048576):∃x,hY a b c xs=some (x,())∧jd a b c xs=some (x,()):=by
 obtain ⟨y,h1,h2⟩:=CL xs h;unfold hY jd;simp only [mv,vY,pG,Option.bind_some,h1,h2]
 cases (decide (1≤a)&&decide (a≤5))
 ·exact ⟨_,rfl,rfl⟩
 cases (decide (1≤b)&&decide (b≤9))
 ·exact ⟨_,rfl,rfl⟩
 cases (decide (0≤c)&&decide (c≤IntKind.i64.wrap (b-1)))
 ·exact ⟨_,rfl,rfl⟩
 cases y
 ·exact ⟨_,rfl,rfl⟩
 cases decide (0<c)
 ·exact ⟨_,rfl,rfl⟩
 ·exact ⟨_,rfl,rfl⟩
abbrev ea:Type:=Int×Int×Int×aW×Unit
noncomputable def qL (b:ea):Bool:=match hY b.1 b.2.1 b.2.2.1 b.2.2.2.1 with | some x=>x.1 | none=>false
theorem rR (b:ea) (h:b.2.2.2.1.length≤1048576):hY b.1 b.2.1 b.2.2.1 b.2.2.2.1=some (qL b,())∧jd b.1 b.2.1 b.2.2.1 b.2.2.2.1=some (qL b,()):=by
 obtain ⟨x,h1,h2⟩:=FV b.1 b.2.1 b.2.2.1 b.2.2.2.1 h;have:qL b=x:=by unfold qL;rw [h1]
 rw [this];exact ⟨h1,h2⟩
theorem D0 (xs:List ea) {k:Nat} (hk:k<xs.length) (h:xs.length+wl dX xs≤1048576):xs[k].2.2.2.1.length≤1048576:=by
 have hw:=Hw dX xs xs[k] (List.getElem_mem hk);have:dX xs[k]=List.length xs[k].2.2.2.1+wl dD xs[k].2.2.2.1:=rfl;omega
structure jf (xs:List ea):Prop where
 len:xs.length≤4194304
 each:∀b∈xs,b.2.2.2.1.length≤1048576
theorem jf.at {xs:List ea} (h:jf xs) {k:Nat} (hk:k<xs.length):xs[k].2.2.2.1.length≤1048576:=h.each _ (List.getElem_mem hk)
theorem jf.of {xs:List ea} (h:xs.length+wl dX xs≤1048576):jf xs:=⟨by omega,fun b hb=>by
 obtain ⟨k,hk,rfl⟩:=List.mem_iff_getElem.1 hb;exact D0 xs hk h⟩
theorem jf.more {xs:List ea} (h:xs.length+wl dX xs≤1048576) {b:ea} (hb:b.2.2.2.1.length≤1048576):jf (xs++[b]):=⟨by rw [List.length_append,List.length_singleton];omega,fun x hx=>by
 rcases List.mem_append.1 hx with hx | hx
 ·exact (jf.of h).each x hx
 ·rw [List.mem_singleton] at hx;subst hx;exact hb⟩
noncomputable def ir (xs:List ea) (c id:Int):Option ea:=xs.find? fun b=>decide (b.1=id)&&(decide (b.2.1=c)&&qL b)
abbrev tG:Option ea→Int×Int×Int×aW×Bool×Unit
 |none=>(0,0,0,[],false,())
 |some b=>(b.1,b.2.1,b.2.2.1,b.2.2.2.1,true,())
def WB:Option ea→Sum (Int×Int×Int×aW×Unit) (Int×Int×Int×aW×Bool×Unit)
 |none=>.inl (0,0,0,[],())
 |some b=>.inr (tG (some b))
theorem It (xs:List ea) (c id:Int) {k:Nat} (hk:k<xs.length):ir (xs.drop k) c id=if (decide (xs[k].1=id)&&(decide (xs[k].2.1=c)&&qL xs[k]))=true then some xs[k] else ir (xs.drop (k+1)) c id:=by
 unfold ir;rw [List.drop_eq_getElem_cons hk,List.find?_cons]
 cases (decide (xs[k].1=id)&&(decide (xs[k].2.1=c)&&qL xs[k]))<;>rfl
theorem Fb {xs:List ea} {c id:Int} {b:ea} (h:ir xs c id=some b):b∈xs∧b.1=id∧b.2.1=c∧qL b=true:=by
 unfold ir at h;have:=List.find?_some h;simp only [Bool.and_eq_true,decide_eq_true_eq] at this;exact ⟨List.mem_of_find?_eq_some h,this⟩
theorem rS (bG:Int) (bI:List (Int×Unit)) (xs:List ea) (id:Int) (h:jf xs):dR bG bI xs id=some (tG (ir xs bG id)):=by
 have TZ:=h.len;have hl:=sy (round:=jo) (n:=xs.length) (fun k=>(xs,id,bG,bI,(0:Int),(0:Int),(0:Int),[],((k:Nat):Int),())) (fun k=>some (WB (ir (xs.drop k) bG id)))
  ⟨.inl (0,0,0,[],()),by simp only [jo,bC,rD,aw,aA,aM,cond_false],by rw [List.drop_length];rfl⟩ (fun k hk=>by
   have hb:=(rR xs[k] (h.at hk)).1;rw [It xs bG id hk];simp only [jo,bC,rD,aw,aA,aD hk,ax,cond_true,aF,List.getElem?_eq_getElem hk,Option.bind_some,hb,aN (show k<4611686018427387904 by omega)]
   cases decide (xs[k].1=id)
   ·exact .inr ⟨rfl,rfl⟩
   cases decide (xs[k].2.1=bG)
   ·exact .inr ⟨rfl,rfl⟩
   cases qL xs[k]
   ·exact .inr ⟨rfl,rfl⟩
   ·exact .inl ⟨_,rfl,rfl⟩) 0 (Nat.zero_le _)
 unfold dR;have hl:aI jo (xs,id,bG,bI,(0:Int),(0:Int),(0:Int),[],(0:Int),())=_:=hl;rw [hl,List.drop_zero]
 cases ir xs bG id<;>rfl
theorem v7 (bG:Int) (bI:List (Int×Unit)) (xs:List ea) (id:Int) (h:jf xs):je bG bI xs id=some (tG (ir xs bG id)):=by
 have TZ:=h.len;have hl:=sy (round:=jt) (n:=xs.length) (fun k=>(id,bG,bI,(0:Int),(0:Int),(0:Int),[],xs,((xs.length:Nat):Int),((k:Nat):Int),())) (fun k=>some (WB (ir (xs.drop k) bG id)))
  ⟨.inl (0,0,0,[],()),by simp only [jt,bC,rP,aw,aA,aM,cond_false],by rw [List.drop_length];rfl⟩ (fun k hk=>by
   have hb:=(rR xs[k] (h.at hk)).2;rw [It xs bG id hk];simp only [jt,bC,rP,aw,aA,aD hk,ax,cond_true,aF,List.getElem?_eq_getElem hk,Option.bind_some,hb,aN (show k<4611686018427387904 by omega)]
   cases decide (xs[k].1=id)
   ·exact .inr ⟨rfl,rfl⟩
   cases decide (xs[k].2.1=bG)
   ·exact .inr ⟨rfl,rfl⟩
   cases qL xs[k]
   ·exact .inr ⟨rfl,rfl⟩
   ·exact .inl ⟨_,rfl,rfl⟩) 0 (Nat.zero_le _)
 unfold je;have hl:aI jt (id,bG,bI,(0:Int),(0:Int),(0:Int),[],xs,((xs.length:Nat):Int),(0:Int),())=_:=hl;rw [hl,List.drop_zero]
 cases ir xs bG id<;>rfl
noncomputable def iu (xs:List ea) (c id:Int) (gv:ea) (out:List (Int×Unit)) (d:Int):List (Int×Unit):=
 match ir xs c d with
 |none=>out
 |some b=>if (d=id∨(b.2.2.1=gv.2.2.1∧0<b.2.2.1))∧(d,())∉out then out++[(d,())] else out
theorem D1 (xs:List ea) (c id:Int) (gv:ea) (out:List (Int×Unit)) (d:Int):(iu xs c id gv out d).length≤out.length+1:=by
 unfold iu
 split
 ·omega
 ·split
  ·simp
  ·omega
noncomputable def eU (xs:List ea) (c:Int) (ms:List (Int×Unit)) (id:Int):List (Int×Unit):=
 match ir xs c id with
 |none=>[]
 |some gv=>ms.foldl (fun out m=>iu xs c id gv out m.1) []
theorem zp (xs:List (Int×Unit)) (d:Int) (h:xs.length≤1048576):dm xs d=some (decide ((d,())∈xs),()):=by
 have hl:=sy (round:=eI) (n:=xs.length) (fun k=>(xs,d,((k:Nat):Int),())) (fun k=>some (if (d,())∈xs.drop k then .inr (true,()) else .inl ()))
  ⟨.inl (),by simp only [eI,kI,aM,cond_false],by rw [List.drop_length];rfl⟩ (fun k hk=>by
   rw [List.drop_eq_getElem_cons hk];simp only [eI,kI,aD hk,ax,cond_true,aF,List.getElem?_eq_getElem hk,Option.bind_some,aN (show k<4611686018427387904 by omega)]
   by_cases e:xs[k].1=d
   ·rw [ak e];exact .inl ⟨_,rfl,by rw [if_pos (List.mem_cons.2 (.inl (by rw [←e])))]⟩
   ·rw [aq e];refine .inr ⟨rfl,?_⟩;have:((d,())∈xs[k]::xs.drop (k+1))↔((d,())∈xs.drop (k+1)):=by
     rw [List.mem_cons];exact ⟨fun h=>h.resolve_left (fun q=>e (by rw [←q])),.inr⟩
    by_cases q:(d,())∈xs.drop (k+1)
    ·rw [if_pos q,if_pos (this.2 q)]
    ·rw [if_neg q,if_neg (fun z=>q (this.1 z))]) 0 (Nat.zero_le _)
 unfold dm;have hl:aI eI (xs,d,(0:Int),())=_:=hl;rw [hl,List.drop_zero]
 by_cases q:(d,())∈xs
 ·rw [if_pos q,ak q];rfl
 ·rw [if_neg q,aq q];rfl
theorem Re (xs:List (Int×Unit)) (d:Int) (h:xs.length≤1048576):dy xs d=some (decide ((d,())∈xs),()):=by
 obtain ⟨b,h1,h2⟩:=oQ d xs h;rw [zp xs d h] at h1;injection h1 with h1;injection h1 with h1 _;rw [h2,h1]
theorem uR {α β:Type} (f:β→α→β) (b:β) (xs:List α) {k:Nat} (hk:k<xs.length):(xs.take (k+1)).foldl f b=f ((xs.take k).foldl f b) xs[k]:=by
 rw [List.take_succ_eq_append_getElem hk,List.foldl_append];rfl
theorem zq (xs:List ea) (c id:Int) (gv:ea) (ms:List (Int×Unit)) (out:List (Int×Unit)):(ms.foldl (fun out m=>iu xs c id gv out m.1) out).length≤out.length+ms.length:=by
 induction ms generalizing out with
 |nil=>simp
 |cons m ms ih=>
  rw [List.foldl_cons,List.length_cons];have h1:=ih (iu xs c id gv out m.1);have h2:=D1 xs c id gv out m.1;omega
theorem so (bG:Int) (bI:List (Int×Unit)) (xs:List ea) (id:Int) (h0:bI.length≤1048576) (h:jf xs) :
  iC bG bI xs id=some (eU xs bG bI id,())∧iE bG bI xs id=some (eU xs bG bI id,())∧(eU xs bG bI id).length≤bI.length:=by
 have TZ:=h.len;unfold iC iE eU;delta aA;rw [rS _ _ _ _ h,v7 _ _ _ _ h]
 cases hm:ir xs bG id with
 |none=>exact ⟨rfl,rfl,Nat.zero_le _⟩
 |some gv=>
  have wi:=(Fb hm).2.1;have hlen:=zq xs bG id gv bI [];rw [List.length_nil,Nat.zero_add] at hlen;have hk8:∀k,k<bI.length→Nat.ble ((((bI.take k).foldl (fun out m=>iu xs bG id gv out m.1) []).length+1)*8) lim=true:=fun k hk=>by
   have:=zq xs bG id gv (bI.take k) [];rw [List.length_nil,Nat.zero_add,List.length_take] at this;exact aT (by unfold lim;omega)
  have Hc:∀k,k<bI.length→((bI.take k).foldl (fun out m=>iu xs bG id gv out m.1) []).length≤1048576:=fun k hk=>by
   have:=zq xs bG id gv (bI.take k) [];rw [List.length_nil,Nat.zero_add,List.length_take] at this;omega
  have l1:=ca (round:=fh) (e:=.inl (bI.foldl (fun out m=>iu xs bG id gv out m.1) [],())) bI.length (fun k=>(xs,id,bG,bI,(bI.take k).foldl (fun out m=>iu xs bG id gv out m.1) [],gv.1,gv.2.1,gv.2.2.1,gv.2.2.2.1,((k:Nat):Int),())) (by
   simp only [fh,bC,il,aM,cond_false,List.take_length]) (fun k hk=>by
   rw [uR _ _ _ hk];have e8:=hk8 k hk;have ei:=Hc k hk;generalize (bI.take k).foldl (fun out m=>iu xs bG id gv out m.1) []=out at e8 ei ⊢;simp only [fh,bC,il,aD hk,ax,cond_true,aF,List.getElem?_eq_getElem hk,Option.bind_some,rS _ _ _ _ h,aN (show k<4611686018427387904 by omega)];unfold iu
   cases hb:ir xs bG bI[k].1 with
   |none=>rfl
   |some b=>
    have hf:=(Fb hb).2.1;simp only [tG,hf,zp _ _ ei,Option.bind_some,cond_true,e8]
    by_cases q1:bI[k].1=id
    ·rw [ak q1]
     by_cases q3:(bI[k].1,())∈out
     ·rw [ak q3,if_neg (fun z=>z.2 q3)];rfl
     ·rw [aq q3,if_pos ⟨.inl q1,q3⟩];rfl
    rw [aq q1]
    by_cases q2:b.2.2.1=gv.2.2.1
    ·rw [ak q2]
     by_cases q4:0<b.2.2.1
     ·rw [ak q4]
      by_cases q3:(bI[k].1,())∈out
      ·rw [ak q3,if_neg (fun z=>z.2 q3)];rfl
      ·rw [aq q3,if_pos ⟨.inr ⟨q2,q4⟩,q3⟩];rfl
     ·rw [aq q4,if_neg (fun z=>z.1.elim q1 (fun w=>q4 w.2))];rfl
    ·rw [aq q2,if_neg (fun z=>z.1.elim q1 (fun w=>q2 w.1))];rfl)
  have l2:=ca (round:=gb) (e:=.inl (bI.foldl (fun out m=>iu xs bG id gv out m.1) [],())) bI.length (fun k=>(xs,id,bG,bI,gv.1,gv.2.1,gv.2.2.1,gv.2.2.2.1,(bI.take k).foldl (fun out m=>iu xs bG id gv out m.1) [],bI,((bI.length:Nat):Int),((k:Nat):Int),())) (by
   simp only [gb,gw,nF,aM,cond_false,List.take_length]) (fun k hk=>by
   rw [uR _ _ _ hk];have e8:=hk8 k hk;have ei:=Hc k hk;generalize (bI.take k).foldl (fun out m=>iu xs bG id gv out m.1) []=out at e8 ei ⊢;simp only [gb,gw,nF,aD hk,ax,cond_true,aF,List.getElem?_eq_getElem hk,Option.bind_some,v7 _ _ _ _ h,aN (show k<4611686018427387904 by omega)];unfold iu
   cases hb:ir xs bG bI[k].1 with
   |none=>rfl
   |some b=>
    simp only [tG,Re _ _ ei,Option.bind_some,cond_true,e8]
    by_cases q3:(bI[k].1,())∈out
    ·rw [ak q3,if_neg (fun z=>z.2 q3)];rfl
    rw [aq q3]
    by_cases q1:bI[k].1=id
    ·rw [ak q1,if_pos ⟨.inl q1,q3⟩];rfl
    rw [aq q1]
    by_cases q4:0<gv.2.2.1
    ·rw [ak q4]
     by_cases q2:b.2.2.1=gv.2.2.1
     ·rw [Wz q2,if_pos ⟨.inr ⟨q2,by omega⟩,q3⟩];rfl
     ·rw [Tn q2,if_neg (fun z=>z.1.elim q1 (fun w=>q2 w.1))];rfl
    ·rw [aq q4,if_neg (fun z=>z.1.elim q1 (fun w=>q4 (by omega)))];rfl)
  have l1:aI fh (xs,id,bG,bI,[],gv.1,gv.2.1,gv.2.2.1,gv.2.2.2.1,(0:Int),())=_:=l1;have l2:aI gb (xs,id,bG,bI,gv.1,gv.2.1,gv.2.2.1,gv.2.2.2.1,[],bI,((bI.length:Nat):Int),(0:Int),())=_:=l2;simp only [tG,Option.bind_some,Bool.not_true,cond_false,l1,l2];exact ⟨rfl,rfl,hlen⟩
end Go.TM
set_option linter.unusedSimpArgs false
set_option linter.unusedVariables false
namespace Go.TM
open Go
def xP (l:List (Int×Unit)) (n:Nat):Prop:=∀j (h:j<l.length),j<n→(decide (1≤l[j].1)&&decide (l[j].1≤2))=true
def kx (l:List (ByteArray×Unit)) (n:Nat):Prop:=∀j (h:j<l.length),j<n→ByteArray.size l[j].1≤60
def WC (lv:List (Int×Unit)) (tx:List (ByteArray×Unit)):Sum (List (Int×Unit)×List (ByteArray×Unit)×Unit) (Bool×Unit)→Prop
 |.inl y=>y=(lv,tx,())∧xP lv (min lv.length tx.length)∧kx tx (min lv.length tx.length)
 |.inr b=>b.1=false∧¬(xP lv (min lv.length tx.length)∧kx tx (min lv.length tx.length))
theorem CN (lv:List (Int×Unit)) (tx:List (ByteArray×Unit)) (h1:lv.length≤1048576) (h2:tx.length≤1048576):∃b,se lv tx=some (b,())∧(b=true↔tx.length≤20∧lv.length=tx.length∧xP lv lv.length∧kx tx tx.length):=by
 obtain ⟨e,he,hq⟩:=dA (round:=jl) (x:=(lv,tx,((0:Nat):Int),())) (min lv.length tx.length) (fun k x=>x=(lv,tx,((k:Nat):Int),())∧xP lv k∧kx tx k) (WC lv tx) (by
   rintro x ⟨rfl,g1,g2⟩
   refine ⟨.inl (lv,tx,()),?_,rfl,g1,g2⟩
   by_cases hb:min lv.length tx.length<tx.length
   ·have e:min lv.length tx.length=lv.length:=by omega
    simp only [jl,nQ,aD hb,cond_true];rw [e,aM];rfl
   ·have e:min lv.length tx.length=tx.length:=by omega
    simp only [jl,nQ];rw [e,aM];rfl) (by
   rintro k x hk ⟨rfl,g1,g2⟩
   have hl:k<lv.length:=by omega
   have ht:k<tx.length:=by omega
   simp only [jl,nQ,aD hl,aD ht,ax,cond_true,aF,List.getElem?_eq_getElem hl,List.getElem?_eq_getElem ht,Option.bind_some,mv,aN (show k<4611686018427387904 by omega)]
   cases hlv:(decide (1≤lv[k].1)&&decide (lv[k].1≤2))
   ·refine .inl ⟨.inr (false,()),rfl,rfl,fun hn => ?_⟩;have:=hn.1 k hl (by omega);rw [hlv] at this
    cases this
   ·by_cases hs:(60:Int)<((ByteArray.size tx[k].1:Nat):Int)
    ·rw [ak hs];refine .inl ⟨.inr (false,()),rfl,rfl,fun hn => ?_⟩;have:=hn.2 k ht (by omega);omega
    ·rw [aq hs];refine .inr ⟨_,rfl,rfl,fun j hj M9 => ?_,fun j hj M9 => ?_⟩
     ·by_cases e:j<k
      ·exact g1 j hj e
      ·have:j=k:=by omega
       subst this;exact hlv
     ·by_cases e:j<k
      ·exact g2 j hj e
      ·have:j=k:=by omega
       subst this;omega) ⟨rfl,fun j _ h=>by omega,fun j _ h=>by omega⟩
 unfold se;rw [show (0:Int)=((0:Nat):Int) from rfl,he]
 cases e with
 |inr e=>
  obtain ⟨q1,q2⟩:=hq;refine ⟨false,by rw [←q1];rfl,⟨(fun h=>by cases h),fun ⟨w1,w2,w3,w4⟩ => ?_⟩⟩;exact absurd ⟨fun j hj hm=>w3 j hj hj,fun j hj hm=>w4 j hj hj⟩ q2
 |inl e=>
  obtain ⟨q1,q2,q3⟩:=hq;subst q1;simp only [kk]
  by_cases w1:((List.length tx:Nat):Int)≤20
  ·rw [ak w1];refine ⟨_,rfl,?_⟩;rw [decide_eq_true_eq]
   constructor
   ·intro w2;have w2:lv.length=tx.length:=by omega
    exact ⟨by omega,w2,fun j hj _=>q2 j hj (by omega),fun j hj _=>q3 j hj (by omega)⟩
   ·rintro ⟨_,w2,_⟩
    rw [w2]
  ·rw [aq w1];exact ⟨false,rfl,⟨(fun h=>by cases h),fun ⟨w2,_⟩=>by omega⟩⟩
theorem PZ (tx:List (ByteArray×Unit)) (h2:tx.length≤1048576):∃b,sm tx=some (b,())∧(b=true↔kx tx tx.length):=by
 obtain ⟨e,he,hq⟩:=dA (round:=lu) (x:=(tx,((List.length tx:Nat):Int),((0:Nat):Int),())) tx.length (fun k x=>x=(tx,((List.length tx:Nat):Int),((k:Nat):Int),())∧kx tx k) (fun e=>(e=.inl ()∧kx tx tx.length)∨(e=.inr (false,())∧¬kx tx tx.length)) (by
   rintro x ⟨rfl,g2⟩
   exact ⟨.inl (),by simp only [lu,rM,aM,cond_false],.inl ⟨rfl,g2⟩⟩) (by
   rintro k x hk ⟨rfl,g2⟩
   simp only [lu,rM,aD hk,ax,cond_true,aF,List.getElem?_eq_getElem hk,Option.bind_some,aN (show k<4611686018427387904 by omega)]
   by_cases hs:(60:Int)<((ByteArray.size tx[k].1:Nat):Int)
   ·rw [ak hs];refine .inl ⟨.inr (false,()),rfl,.inr ⟨rfl,fun hn => ?_⟩⟩;have:=hn k hk hk;omega
   ·rw [aq hs];refine .inr ⟨_,rfl,rfl,fun j hj M9 => ?_⟩
    by_cases e:j<k
    ·exact g2 j hj e
    ·have:j=k:=by omega
     subst this;omega) ⟨rfl,fun j _ h=>by omega⟩
 unfold sm;rw [show (0:Int)=((0:Nat):Int) from rfl,he];rcases hq with ⟨rfl,q⟩ | ⟨rfl,q⟩
 ·exact ⟨true,rfl,⟨fun _=>q,fun _=>rfl⟩⟩
 ·exact ⟨false,rfl,⟨(fun h=>by cases h),fun h=>absurd h q⟩⟩
theorem zr (c0 c1 c2 c3 c4:Int) (xs:List (Int×Unit)):∃b,fm c0 c1 c2 c3 c4 xs=some (b,())∧dK c0 c1 c2 c3 c4 xs=some (b,()):=by
 unfold fm p8 dK
 cases decide (c0=0)
 ·exact ⟨_,rfl,rfl⟩
 cases decide (c1=0)
 ·exact ⟨_,rfl,rfl⟩
 cases decide (c2=0)
 ·exact ⟨_,rfl,rfl⟩
 cases decide (c3=0)
 ·exact ⟨_,rfl,rfl⟩
 cases decide (c4=0)
 ·exact ⟨_,rfl,rfl⟩
 cases xs with
 |nil=>
  have hl:=ca (round:=iT) (e:=.inl ()) 0 (fun k=>(([]:List (Int×Unit)),([]:List (Int×Unit)),((k:Nat):Int),())) (by
   simp only [iT,tN,List.length_nil,aM,cond_false]) (fun k hk=>by omega)
  have hl:aI iT (([]:List (Int×Unit)),([]:List (Int×Unit)),(0:Int),())=_:=hl;refine ⟨true,?_,rfl⟩;simp only [cond_true,nP,List.length_nil,decide_true,Bool.not_true,cond_false,hl,kk,Option.bind_some]
 |cons x xs=>
  have e:decide (((List.length (x::xs):Nat):Int)=(0:Int))=false:=aq (by rw [List.length_cons];omega);have e2:decide (((List.length (x::xs):Nat):Int)=((List.length ([]:List (Int×Unit)):Nat):Int))=false:=e;refine ⟨false,?_,?_⟩
  ·simp only [cond_true,nP,e2,Bool.not_false,Option.bind_some]
  ·simp only [cond_true,e]
abbrev ZS:Type:=Int×Int×(List (Int×Unit))×aW×(List (Int×Unit))×(List (ByteArray×Unit))×Int×Int×Int×Int×Int×Int×Int×Int×Int×(List (Int×Unit))×Unit
def afA (m:ZS) (lv:List (Int×Unit)):Sum ZS (Bool×Unit)→Prop
 |.inl y=>y=m∧xP lv lv.length
 |.inr b=>b.1=false∧¬xP lv lv.length
theorem FW (eC:Int) (ek:Int) (dM:List (Int×Unit)) (dJ:List (Int×Int×Int×ByteArray×Unit)) (dk:List (Int×Unit)) (dN:List (ByteArray×Unit)) (eN:Int) (eZ:Int) (fa:Int) (fc:Int) (cG:Int) (cH:Int) (cI:Int) (cJ:Int) (cK:Int) (cz:List (Int×Unit))
  (h0:(List.length dM+wl jK dM)+(List.length dJ+wl dD dJ)+(List.length dk+wl jK dk)+(List.length dN+wl Jo dN)+(List.length cz+wl jK cz)≤1048576):∃o0,fe eC ek dM dJ dk dN eN eZ fa fc cG cH cI cJ cK cz=some (o0,())∧gJ eC ek dM dJ dk dN eN eZ fa fc cG cH cI cJ cK cz=some (o0,()):=by
 obtain ⟨b1,r1,r2,_⟩:=BC ek dM (by omega);obtain ⟨b2,c1,c2⟩:=oQ eC dM (by omega);obtain ⟨b3,i1,i2⟩:=CL dJ (by omega);obtain ⟨b4,t1,t2⟩:=CN dk dN (by omega) (by omega);obtain ⟨b5,s1,s2⟩:=PZ dN (by omega);obtain ⟨n,a1,a2,_⟩:=DZ dJ (by omega);obtain ⟨b6,z1,z2⟩:=zr cG cH cI cJ cK cz;obtain ⟨b7,k1,k2,_⟩:=vZ cG cH cI cJ cK cz (by omega);obtain ⟨e,he,hq⟩:=dA (round:=ly) (x:=(eC,ek,dM,dJ,dk,dN,eN,eZ,fa,fc,cG,cH,cI,cJ,cK,cz,dk,((List.length dk:Nat):Int),((0:Nat):Int),())) dk.length
  (fun k x=>x=(eC,ek,dM,dJ,dk,dN,eN,eZ,fa,fc,cG,cH,cI,cJ,cK,cz,dk,((List.length dk:Nat):Int),((k:Nat):Int),())∧xP dk k)
  (afA (eC,ek,dM,dJ,dk,dN,eN,eZ,fa,fc,cG,cH,cI,cJ,cK,cz,()) dk) (by
   rintro x ⟨rfl,g⟩
   exact ⟨.inl _,by simp only [ly,ba,vM,aM,cond_false],rfl,g⟩) (by
   rintro k x hk ⟨rfl,g⟩
   simp only [ly,ba,vM,aD hk,ax,cond_true,aF,List.getElem?_eq_getElem hk,Option.bind_some,DY,aN (show k<4611686018427387904 by omega)]
   cases hlv:(decide (1≤dk[k].1)&&decide (dk[k].1≤2))
   ·refine .inl ⟨.inr (false,()),rfl,rfl,fun hn => ?_⟩;have:=hn k hk hk;rw [hlv] at this
    cases this
   ·refine .inr ⟨_,rfl,rfl,fun j hj M9 => ?_⟩
    by_cases e:j<k
    ·exact g j hj e
    ·have:j=k:=by omega
     subst this;exact hlv) ⟨rfl,fun j _ h=>by omega⟩
 have he:aI ly (eC,ek,dM,dJ,dk,dN,eN,eZ,fa,fc,cG,cH,cI,cJ,cK,cz,dk,((List.length dk:Nat):Int),(0:Int),())=some e:=he;unfold fe gJ;delta aP;simp only [r1,r2,c1,c2,i1,i2,t1,s1,Option.bind_some,he]
 cases b1
 ·cases b2
  ·exact ⟨_,rfl,rfl⟩
  ·exact ⟨_,rfl,rfl⟩
 cases b2
 ·exact ⟨_,rfl,rfl⟩
 cases b3
 ·exact ⟨_,rfl,rfl⟩
 simp only [Bool.not_true,cond_false]
 by_cases w1:(20:Int)<((List.length dN:Nat):Int)
 ·have:b4=false:=by
   cases b4
   ·rfl
   ·have:=(t2.1 rfl).1;omega
  subst this;rw [ak w1];exact ⟨_,rfl,rfl⟩
 rw [aq w1]
 cases b5
 ·have:b4=false:=by
   cases b4
   ·rfl
   ·have:=s2.2 (t2.1 rfl).2.2.2;cases this
  subst this;exact ⟨_,rfl,rfl⟩
 by_cases w2:((List.length dk:Nat):Int)=((List.length dN:Nat):Int)
 case neg=>
  have:b4=false:=by
   cases b4
   ·rfl
   ·have:=(t2.1 rfl).2.1;omega
  subst this;rw [aq w2];exact ⟨_,rfl,rfl⟩
 rw [ak w2]
 cases e with
 |inr e=>
  obtain ⟨q1,q2⟩:=hq;have:b4=false:=by
   cases b4
   ·rfl
   ·exact absurd (t2.1 rfl).2.2.1 q2
  subst this;refine ⟨false,rfl,?_⟩;show some (e.1,())=_;rw [q1]
 |inl e=>
  obtain ⟨q1,q2⟩:=hq;subst q1;have:b4=true:=t2.2 ⟨by omega,by omega,q2,s2.1 rfl⟩;subst this;simp only [Bool.not_true,cond_false,kk,a1,a2,z1,z2,k1,k2,mv,vY,Option.bind_some]
  cases (decide (0≤eN)&&decide (eN≤1000000000))
  ·exact ⟨_,rfl,rfl⟩
  cases (decide (0≤eZ)&&decide (eZ≤60))
  ·exact ⟨_,rfl,rfl⟩
  cases (decide (0≤fa)&&decide (fa≤((n:Nat):Int)))
  ·exact ⟨_,rfl,rfl⟩
  cases (decide (0≤fc)&&decide (fc≤((n:Nat):Int)))
  ·exact ⟨_,rfl,rfl⟩
  cases b6
  ·exact ⟨_,rfl,rfl⟩
  ·exact ⟨_,rfl,rfl⟩
end Go.TM
set_option linter.unusedSimpArgs false
set_option linter.unusedVariables false
namespace Go.TM
open Go
def pH (r:dY):Prop:=(1≤r.1∧r.1≤60)∧(1≤r.2.1∧r.2.1≤5)∧(1≤r.2.2.1∧r.2.2.1≤2)∧ByteArray.size r.2.2.2.1≤60
def eV (xs:aW) (n:Nat):Prop:=∀k (h:k<xs.length),k<n→pH xs[k]∧∀h0:0<k,xs[k-1].1<xs[k].1
theorem NT (a b c:Int) (s:ByteArray):∃x,ko a b c s=some (x,())∧lP a b c s=some (x,())∧(x=true↔pH (a,b,c,s,())):=by
 have hi:∀ {p q r:Prop} [Decidable p] [Decidable q],(decide p&&decide q)=false→¬((p∧q)∧r):=by
  intro p q r _ _ h ⟨h1,_⟩;rw [decide_eq_true h1.1,decide_eq_true h1.2] at h
  cases h
 unfold ko lP pH;simp only [mv,vY,pG,DY,Option.bind_some]
 cases h1:(decide (1≤a)&&decide (a≤60))
 ·exact ⟨false,rfl,rfl,⟨fun h=>(by cases h),fun h=>absurd h (hi h1)⟩⟩
 rw [Bool.and_eq_true,decide_eq_true_eq,decide_eq_true_eq] at h1
 cases h2:(decide (1≤b)&&decide (b≤5))
 ·exact ⟨false,rfl,rfl,⟨fun h=>(by cases h),fun h=>absurd h.2 (hi h2)⟩⟩
 rw [Bool.and_eq_true,decide_eq_true_eq,decide_eq_true_eq] at h2
 cases h3:(decide (1≤c)&&decide (c≤2))
 ·exact ⟨false,rfl,rfl,⟨fun h=>(by cases h),fun h=>absurd h.2.2 (hi h3)⟩⟩
 rw [Bool.and_eq_true,decide_eq_true_eq,decide_eq_true_eq] at h3;refine ⟨_,rfl,rfl,?_⟩;rw [decide_eq_true_eq];exact ⟨fun h=>⟨h1,h2,h3,by omega⟩,fun h=>by have:=h.2.2.2;omega⟩
theorem KT (xs:aW) (h:xs.length≤1048576):∃b,gl xs=some (b,())∧iZ xs=some (b,())∧(b=true↔eV xs xs.length):=by
 obtain ⟨b,h1,h2⟩:=CL xs h;refine ⟨b,h1,h2,?_⟩;obtain ⟨e,he,hq⟩:=dA (round:=fM) (x:=(xs,((0:Nat):Int),())) xs.length (fun k x=>x=(xs,((k:Nat):Int),())∧eV xs k) (fun e=>(e=.inl ()∧eV xs xs.length)∨(e=.inr (false,())∧¬eV xs xs.length)) (by
   rintro x ⟨rfl,g⟩
   exact ⟨.inl (),by simp only [fM,mh,aw,aM,cond_false],.inl ⟨rfl,g⟩⟩) (by
   rintro k x hk ⟨rfl,g⟩
   obtain ⟨b,r1,_,r3⟩:=NT xs[k].1 xs[k].2.1 xs[k].2.2.1 xs[k].2.2.2.1;have r3:b=true↔pH xs[k]:=r3;simp only [fM,mh,aw,aD hk,ax,cond_true,aF,List.getElem?_eq_getElem hk,Option.bind_some,r1,aN (show k<4611686018427387904 by omega)];have more:pH xs[k]→(∀h0:0<k,xs[k-1].1<xs[k].1)→eV xs (k+1):=fun q1 q2 j hj M9=>by
    by_cases e:j<k
    ·exact g j hj e
    ·have:j=k:=by omega
     subst this;exact ⟨q1,q2⟩
   cases b
   ·exact .inl ⟨.inr (false,()),rfl,.inr ⟨rfl,fun hn=>absurd (r3.2 (hn k hk hk).1) (by simp)⟩⟩
   ·have q1:=r3.1 rfl
    by_cases h0:0<k
    ·have hp:k-1<xs.length:=by omega
     rw [uQ h0 (by omega)];simp only [ak (show (0:Int)<((k:Nat):Int) by omega),Bool.not_true,cond_false,cond_true,ax,aF,List.getElem?_eq_getElem hp,Option.bind_some]
     by_cases hs:xs[k].1≤xs[k-1].1
     ·rw [ak hs];refine .inl ⟨.inr (false,()),rfl,.inr ⟨rfl,fun hn => ?_⟩⟩;have:=(hn k hk hk).2 h0;omega
     ·rw [aq hs];exact .inr ⟨_,rfl,rfl,more q1 (fun _=>by omega)⟩
    ·have:k=0:=by omega
     subst this;simp only [aq (show ¬(0:Int)<((0:Nat):Int) by omega),Bool.not_true,cond_false];exact .inr ⟨_,rfl,rfl,more q1 (fun h=>absurd h (by omega))⟩) ⟨rfl,fun j _ h=>by omega⟩
 have he:aI fM (xs,(0:Int),())=some e:=he;unfold gl at h1;rw [he] at h1;rcases hq with ⟨rfl,g⟩ | ⟨rfl,g⟩
 ·injection h1 with h1;injection h1 with h1 _;exact ⟨fun _=>g,fun _=>h1.symm⟩
 ·injection h1 with h1;injection h1 with h1 _;subst h1;exact ⟨fun h=>(by cases h),fun h=>absurd h g⟩
theorem KU {α:Type} (f:α→Nat) (c:Nat):(xs:List α)→(∀x∈xs,f x≤c)→wl f xs≤c*xs.length
 | [],_=>Nat.zero_le _
 |x::xs,h=>by
  rw [sb,List.length_cons,Nat.mul_succ];have:=KU f c xs (fun y hy=>h y (List.mem_cons_of_mem _ hy));have:=h x List.mem_cons_self;omega
theorem KV (xs:aW) (h:eV xs xs.length):∀k (hk:k<xs.length),((k+1:Nat):Int)≤xs[k].1
 |0,hk=>by have:=(h 0 hk hk).1.1.1;omega
 |k+1,hk=>by
  have h1:=KV xs h k (by omega);have h2:=(h (k+1) hk hk).2 (by omega);have h2:xs[k].1<xs[k+1].1:=h2;omega
theorem dv (xs:aW) (h:eV xs xs.length):xs.length≤60∧wl dD xs≤3600:=by
 have h1:xs.length≤60:=by
  by_cases h0:0<xs.length
  ·have:=KV xs h (xs.length-1) (by omega);have:=(h (xs.length-1) (by omega) (by omega)).1.1.2;omega
  ·omega
 refine ⟨h1,Nat.le_trans (KU dD 60 xs fun x hx => ?_) (by omega)⟩;obtain ⟨k,hk,rfl⟩:=List.mem_iff_getElem.1 hx;exact (h k hk hk).1.2.2.2
theorem FX (xs:List (ByteArray×Unit)) (h:kx xs xs.length):wl Jo xs≤60*xs.length:=by
 refine KU Jo 60 xs fun x hx => ?_
 obtain ⟨k,hk,rfl⟩:=List.mem_iff_getElem.1 hx;exact h k hk hk
structure WD (c0 c1:Int) (c2:List (Int×Unit)) (c3:aW) (c4:List (Int×Unit)) (c5:List (ByteArray×Unit)) (c6 c7 c8 c9:Int) (c15:List (Int×Unit)):Prop where
 ring:1≤c2.length∧c2.length≤5
 items:eV c3 c3.length
 texts:c5.length≤20∧c4.length=c5.length
 Xx:xP c4 c4.length
 short:kx c5 c5.length
 round:0≤c6∧c6≤1000000000
 seen:0≤c7∧c7≤60
 aru:∃n:Nat,gX c3=some (((n:Nat):Int),())∧jH c3=some (((n:Nat):Int),())∧Rc c3 n∧(0≤c8∧c8≤((n:Nat):Int))∧0≤c9∧c9≤((n:Nat):Int)
 akw:c15.length≤20
theorem Tq {c0 c1 c2 c3 c4:Int} {xs:List (Int×Unit)} (h:dK c0 c1 c2 c3 c4 xs=some (true,())):xs.length=0:=by
 unfold dK at h
 by_cases h0:((List.length xs:Nat):Int)=0
 ·omega
 ·exfalso
  rw [aq h0] at h
  revert h
  cases decide (c0=(0:Int))<;>cases decide (c1=(0:Int))<;>cases decide (c2=(0:Int))<;>cases decide (c3=(0:Int))<;>cases decide (c4=(0:Int))<;>intro h<;>cases h
theorem lB {p q:Prop} [Decidable p] [Decidable q] (h:(decide p&&decide q)=true):p∧q:=by
 rw [Bool.and_eq_true,decide_eq_true_eq,decide_eq_true_eq] at h;exact h
theorem WE (eC:Int) (ek:Int) (dM:List (Int×Unit)) (dJ:aW) (dk:List (Int×Unit)) (dN:List (ByteArray×Unit)) (eN:Int) (eZ:Int) (fa:Int) (fc:Int) (cG:Int) (cH:Int) (cI:Int) (cJ:Int) (cK:Int) (cz:List (Int×Unit))
  (h0:(List.length dM+wl jK dM)+(List.length dJ+wl dD dJ)+(List.length dk+wl jK dk)+(List.length dN+wl Jo dN)+(List.length cz+wl jK cz)≤1048576):∃b,fe eC ek dM dJ dk dN eN eZ fa fc cG cH cI cJ cK cz=some (b,())∧gJ eC ek dM dJ dk dN eN eZ fa fc cG cH cI cJ cK cz=some (b,())∧
   (b=true→WD eC ek dM dJ dk dN eN eZ fa fc cz):=by
 obtain ⟨b,k1,k2⟩:=FW eC ek dM dJ dk dN eN eZ fa fc cG cH cI cJ cK cz h0;refine ⟨b,k1,k2,fun hb => ?_⟩;subst hb;obtain ⟨b1,r1,_,r3⟩:=BC ek dM (by omega);obtain ⟨b2,c1,_⟩:=oQ eC dM (by omega);obtain ⟨b3,i1,_,i3⟩:=KT dJ (by omega);obtain ⟨b4,t1,t2⟩:=CN dk dN (by omega) (by omega);obtain ⟨n,a1,a2,a3⟩:=DZ dJ (by omega);obtain ⟨b6,z1,z2⟩:=zr cG cH cI cJ cK cz;obtain ⟨b7,w1,_,w3⟩:=vZ cG cH cI cJ cK cz (by omega);unfold fe at k1;simp only [r1,c1,i1,t1,a1,z1,w1,mv,Option.bind_some] at k1
 cases b1
 ·cases k1
 cases b2
 ·cases k1
 cases b3
 ·cases k1
 cases b4
 ·cases k1
 simp only [Bool.not_true,cond_false] at k1
 cases e5:(decide ((0:Int)≤eN)&&decide (eN≤1000000000))
 ·rw [e5] at k1;cases k1
 cases e6:(decide ((0:Int)≤eZ)&&decide (eZ≤60))
 ·rw [e5,e6] at k1;cases k1
 cases e8:(decide ((0:Int)≤fa)&&decide (fa≤((n:Nat):Int)))
 ·rw [e5,e6,e8] at k1;cases k1
 cases e9:(decide ((0:Int)≤fc)&&decide (fc≤((n:Nat):Int)))
 ·rw [e5,e6,e8,e9] at k1;cases k1
 rw [e5,e6,e8,e9] at k1;obtain ⟨t3,t4,t5,t6⟩:=t2.1 rfl;refine ⟨r3 rfl,i3.1 rfl,⟨t3,t4⟩,t5,t6,lB e5,lB e6,⟨n,a1,a2,a3,lB e8,lB e9⟩,?_⟩
 cases b6
 ·cases b7
  ·cases k1
  ·exact (w3 rfl).2.2.2.2.1
 ·have:=Tq z2;omega
theorem WD.small {c0 c1:Int} {c2:List (Int×Unit)} {c3:aW} {c4:List (Int×Unit)} {c5:List (ByteArray×Unit)} {c6 c7 c8 c9:Int} {c15:List (Int×Unit)} (h:WD c0 c1 c2 c3 c4 c5 c6 c7 c8 c9 c15) :
  (List.length c2+wl jK c2)+(List.length c3+wl dD c3)+(List.length c4+wl jK c4)+(List.length c5+wl Jo c5)+(List.length c15+wl jK c15)≤5000:=by
 have h1:=dv c3 h.items;have h2:=FX c5 h.short;have h3:=h.texts;have h4:=h.ring;have h5:=h.akw;rw [mW jK (fun _=>rfl),mW jK (fun _=>rfl),mW jK (fun _=>rfl)];omega
theorem Be (xs:aW) (h:xs.length≤1048576):fw xs=some (xs,()):=by
 unfold fw;rw [aT (show (0+xs.length)*40≤lim by unfold lim;omega)];rfl
theorem L3 (xs:List (ByteArray×Unit)) (h:xs.length≤1048576):kT xs=some (xs,()):=by
 unfold kT;rw [aT (show (0+xs.length)*16≤lim by unfold lim;omega)];rfl
theorem nG (eC:Int) (ek:Int) (dM:List (Int×Unit)) (dJ:aW) (dk:List (Int×Unit)) (dN:List (ByteArray×Unit)) (eN:Int) (eZ:Int) (fa:Int) (fc:Int) (cG:Int) (cH:Int) (cI:Int) (cJ:Int) (cK:Int) (cz:List (Int×Unit))
  (h0:(List.length dM+wl jK dM)+(List.length dJ+wl dD dJ)+(List.length dk+wl jK dk)+(List.length dN+wl Jo dN)+(List.length cz+wl jK cz)≤1048576) :
  gn eC ek dM dJ dk dN eN eZ fa fc cG cH cI cJ cK cz=some (eC,ek,dM,dJ,dk,dN,eN,eZ,fa,fc,cG,cH,cI,cJ,cK,cz,())∧
  fK eC ek dM dJ dk dN eN eZ fa fc cG cH cI cJ cK cz=some (eC,ek,dM,dJ,dk,dN,eN,eZ,fa,fc,cG,cH,cI,cJ,cK,cz,()):=by
 obtain ⟨t1,t2⟩:=l9 cG cH cI cJ cK cz (by omega)
 constructor
 ·unfold gn;rw [aT (show (0+dM.length)*8≤lim by unfold lim;omega),aT (show (0+dJ.length)*40≤lim by unfold lim;omega),aT (show (0+dk.length)*8≤lim by unfold lim;omega),aT (show (0+dN.length)*16≤lim by unfold lim;omega),t1];rfl
 ·unfold fK cB;rw [lA dM (by omega),Be dJ (by omega),lA dk (by omega),L3 dN (by omega),t2];rfl
end Go.TM
set_option linter.unusedSimpArgs false
set_option linter.unusedVariables false
namespace Go.TM
open Go
abbrev eA:Type:=List (Int×Unit)
abbrev mR:Type:=Int×Int×Int×Int×Int×eA×Unit
abbrev iA:Type:=Int×Int×eA×aW×eA×(List (ByteArray×Unit))×Int×Int×Int×Int×Int×Int×Int×Int×Int×eA×Unit
abbrev xQ:Type:=Int×Int×eA×Int×Int×Int×ByteArray×eA×Unit
abbrev bZ:Type:=Int×Bool×Int×Int×eA×aW×eA×(List (ByteArray×Unit))×Int×Int×Int×Int×Int×Int×Int×Int×Int×eA×Int×Int×Int×eA×(List ea)×(List xQ)×Unit
def WG (xs:eA) (n:Nat):Prop:=∀k (h:k<xs.length),k<n→(1≤xs[k].1∧xs[k].1≤5)∧∀h0:0<k,xs[k-1].1<xs[k].1
def oR (c:Int) (xs:eA):Prop:=(1≤c∧c≤9)∧(1≤xs.length∧xs.length≤5)∧WG xs xs.length
theorem WH (c:Int) (xs:eA) (h:xs.length≤1048576):∃b,dW c xs=some (b,())∧jc c xs=some (b,())∧(b=true↔oR c xs):=by
 obtain ⟨b,h1,h2,_⟩:=BC c xs h;refine ⟨b,h1,h2,?_⟩;obtain ⟨e,he,hq⟩:=dA (round:=gj) (x:=(c,xs,((0:Nat):Int),())) xs.length (fun k x=>x=(c,xs,((k:Nat):Int),())∧WG xs k) (fun e=>(e=.inl ()∧WG xs xs.length)∨(e=.inr (false,())∧¬WG xs xs.length)) (by
   rintro x ⟨rfl,g⟩
   exact ⟨.inl (),by simp only [gj,nt,aM,cond_false],.inl ⟨rfl,g⟩⟩) (by
   rintro k x hk ⟨rfl,g⟩
   simp only [gj,nt,aD hk,ax,cond_true,aF,List.getElem?_eq_getElem hk,Option.bind_some,mv,aN (show k<4611686018427387904 by omega)];have more:(1≤xs[k].1∧xs[k].1≤5)→(∀h0:0<k,xs[k-1].1<xs[k].1)→WG xs (k+1):=fun q1 q2 j hj M9=>by
    by_cases e:j<k
    ·exact g j hj e
    ·have:j=k:=by omega
     subst this;exact ⟨q1,q2⟩
   cases hb:(decide (1≤xs[k].1)&&decide (xs[k].1≤5))
   ·exact .inl ⟨.inr (false,()),rfl,.inr ⟨rfl,fun hn=>by
     have:=(hn k hk hk).1;rw [ak this.1,ak this.2] at hb
     cases hb⟩⟩
   ·have q1:=lB hb
    by_cases h0:0<k
    ·have hp:k-1<xs.length:=by omega
     rw [uQ h0 (by omega)];simp only [ak (show (0:Int)<((k:Nat):Int) by omega),Bool.not_true,cond_false,cond_true,ax,aF,List.getElem?_eq_getElem hp,Option.bind_some]
     by_cases hs:xs[k].1≤xs[k-1].1
     ·rw [ak hs];refine .inl ⟨.inr (false,()),rfl,.inr ⟨rfl,fun hn => ?_⟩⟩;have:=(hn k hk hk).2 h0;omega
     ·rw [aq hs];exact .inr ⟨_,rfl,rfl,more q1 (fun _=>by omega)⟩
    ·have:k=0:=by omega
     subst this;simp only [aq (show ¬(0:Int)<((0:Nat):Int) by omega),Bool.not_true,cond_false];exact .inr ⟨_,rfl,rfl,more q1 (fun h=>absurd h (by omega))⟩) ⟨rfl,fun j _ h=>by omega⟩
 have he:aI gj (c,xs,(0:Int),())=some e:=he;unfold dW at h1;simp only [mv,Option.bind_some,he] at h1;unfold oR
 cases a1:(decide (1≤c)&&decide (c≤9))
 ·rw [a1] at h1;injection h1 with h1;injection h1 with h1 _;subst h1;refine ⟨fun h=>(by cases h),fun h => ?_⟩;rw [ak h.1.1,ak h.1.2] at a1
  cases a1
 cases a2:(decide (1≤((List.length xs:Nat):Int))&&decide (((List.length xs:Nat):Int)≤5))
 ·rw [a1,a2] at h1;injection h1 with h1;injection h1 with h1 _;subst h1;refine ⟨fun h=>(by cases h),fun h => ?_⟩;rw [ak (show (1:Int)≤((List.length xs:Nat):Int) by omega),ak (show ((List.length xs:Nat):Int)≤5 by omega)] at a2
  cases a2
 rw [a1,a2] at h1;have a1:=lB a1;have a2:=lB a2;rcases hq with ⟨rfl,g⟩ | ⟨rfl,g⟩
 ·injection h1 with h1;injection h1 with h1 _;exact ⟨fun _=>⟨a1,by omega,g⟩,fun _=>h1.symm⟩
 ·injection h1 with h1;injection h1 with h1 _;subst h1;exact ⟨fun h=>(by cases h),fun h=>absurd h.2.2 g⟩
noncomputable def B6 (c:Int) (xs:eA):Bool:=match dW c xs with | some x=>x.1 | none=>false
theorem uB (c:Int) (xs:eA) (h:xs.length≤1048576):dW c xs=some (B6 c xs,())∧jc c xs=some (B6 c xs,())∧(B6 c xs=true↔oR c xs):=by
 obtain ⟨b,h1,h2,h3⟩:=WH c xs h;have:B6 c xs=b:=by unfold B6;rw [h1]
 rw [this];exact ⟨h1,h2,h3⟩
noncomputable def mS (xs:aW):Bool:=match gl xs with | some x=>x.1 | none=>false
theorem oS (xs:aW) (h:xs.length≤1048576):gl xs=some (mS xs,())∧iZ xs=some (mS xs,())∧(mS xs=true↔eV xs xs.length):=by
 obtain ⟨b,h1,h2,h3⟩:=KT xs h;have:mS xs=b:=by unfold mS;rw [h1]
 rw [this];exact ⟨h1,h2,h3⟩
noncomputable def zS (r:dY):Bool:=match ko r.1 r.2.1 r.2.2.1 r.2.2.2.1 with | some x=>x.1 | none=>false
theorem zt (r:dY):ko r.1 r.2.1 r.2.2.1 r.2.2.2.1=some (zS r,())∧lP r.1 r.2.1 r.2.2.1 r.2.2.2.1=some (zS r,())∧(zS r=true↔pH r):=by
 obtain ⟨b,h1,h2,h3⟩:=NT r.1 r.2.1 r.2.2.1 r.2.2.2.1;have:zS r=b:=by unfold zS;rw [h1]
 rw [this];exact ⟨h1,h2,h3⟩
def D2 (b:ea):Prop:=(1≤b.1∧b.1≤5)∧(1≤b.2.1∧b.2.1≤9)∧(0≤b.2.2.1∧b.2.2.1≤b.2.1-1)∧eV b.2.2.2.1 b.2.2.2.1.length∧(0<b.2.2.1∨b.2.2.2.1.length=0)
theorem qM {p q:Prop} [Decidable p] [Decidable q]:(decide p&&decide q)=true↔p∧q:=by
 rw [Bool.and_eq_true,decide_eq_true_eq,decide_eq_true_eq]
theorem Rf (b:ea) (h:b.2.2.2.1.length≤1048576):qL b=true↔D2 b:=by
 obtain ⟨h1,_⟩:=rR b h;obtain ⟨i1,_,i3⟩:=oS b.2.2.2.1 h;unfold hY at h1;simp only [mv,Option.bind_some,i1] at h1;unfold D2;rw [←i3]
 cases a1:(decide (1≤b.1)&&decide (b.1≤5))
 ·rw [a1] at h1;injection h1 with h1;injection h1 with h1 _;rw [←h1];exact ⟨fun h=>(by cases h),fun h=>by rw [qM.2 h.1] at a1;cases a1⟩
 cases a2:(decide (1≤b.2.1)&&decide (b.2.1≤9))
 ·rw [a1,a2] at h1;injection h1 with h1;injection h1 with h1 _;rw [←h1];exact ⟨fun h=>(by cases h),fun h=>by rw [qM.2 h.2.1] at a2;cases a2⟩
 have c2:=lB a2;rw [dH (by omega) (by omega)] at h1
 cases a3:(decide (0≤b.2.2.1)&&decide (b.2.2.1≤b.2.1-1))
 ·rw [a1,a2,a3] at h1;injection h1 with h1;injection h1 with h1 _;rw [←h1];exact ⟨fun h=>(by cases h),fun h=>by rw [qM.2 h.2.2.1] at a3;cases a3⟩
 cases a4:mS b.2.2.2.1
 ·rw [a1,a2,a3,a4] at h1;injection h1 with h1;injection h1 with h1 _;rw [←h1];exact ⟨fun h=>(by cases h),fun h=>by cases h.2.2.2.1⟩
 rw [a1,a2,a3,a4] at h1
 by_cases a5:0<b.2.2.1
 ·rw [ak a5] at h1;injection h1 with h1;injection h1 with h1 _;rw [←h1];exact ⟨fun _=>⟨lB a1,c2,lB a3,rfl,.inl a5⟩,fun _=>rfl⟩
 ·rw [aq a5] at h1;injection h1 with h1;injection h1 with h1 _;rw [←h1];refine ⟨fun h=>⟨lB a1,c2,lB a3,rfl,.inr ?_⟩,fun h => ?_⟩
  ·have:=of_decide_eq_true h;omega
  ·exact decide_eq_true (by rcases h.2.2.2.2 with q | q<;>omega)
theorem Ts (c0 c1 c2 c3 c4:Int) (xs:eA):∃b,fm c0 c1 c2 c3 c4 xs=some (b,())∧dK c0 c1 c2 c3 c4 xs=some (b,())∧(b=true↔c0=0∧c1=0∧c2=0∧c3=0∧c4=0∧xs=[]):=by
 obtain ⟨b,h1,h2⟩:=zr c0 c1 c2 c3 c4 xs;refine ⟨b,h1,h2,?_⟩;unfold dK at h2;have hl:((List.length xs:Nat):Int)=0↔xs=[]:=by rw [←List.length_eq_zero_iff];omega
 by_cases e0:c0=0
 case neg=>simp [aq e0] at h2;subst h2;simp [e0]
 by_cases e1:c1=0
 case neg=>simp [ak e0,aq e1] at h2;subst h2;simp [e1]
 by_cases e2:c2=0
 case neg=>simp [ak e0,ak e1,aq e2] at h2;subst h2;simp [e2]
 by_cases e3:c3=0
 case neg=>simp [ak e0,ak e1,ak e2,aq e3] at h2;subst h2;simp [e3]
 by_cases e4:c4=0
 case neg=>simp [ak e0,ak e1,ak e2,ak e3,aq e4] at h2;subst h2;simp [e4]
 by_cases e5:((List.length xs:Nat):Int)=0
 ·rw [ak e0,ak e1,ak e2,ak e3,ak e4,ak e5] at h2;injection h2 with h2;injection h2 with h2 _;exact ⟨fun _=>⟨e0,e1,e2,e3,e4,hl.1 e5⟩,fun _=>h2.symm⟩
 ·rw [ak e0,ak e1,ak e2,ak e3,ak e4,aq e5] at h2;injection h2 with h2;injection h2 with h2 _;subst h2;exact ⟨fun h=>(by cases h),fun h=>absurd (hl.2 h.2.2.2.2.2) e5⟩
def Blank (t:mR):Prop:=t.1=0∧t.2.1=0∧t.2.2.1=0∧t.2.2.2.1=0∧t.2.2.2.2.1=0∧t.2.2.2.2.2.1=[]
noncomputable def v8 (t:mR):Bool:=match fm t.1 t.2.1 t.2.2.1 t.2.2.2.1 t.2.2.2.2.1 t.2.2.2.2.2.1 with | some x=>x.1 | none=>false
theorem wa (t:mR):fm t.1 t.2.1 t.2.2.1 t.2.2.2.1 t.2.2.2.2.1 t.2.2.2.2.2.1=some (v8 t,())∧dK t.1 t.2.1 t.2.2.1 t.2.2.2.1 t.2.2.2.2.1 t.2.2.2.2.2.1=some (v8 t,())∧(v8 t=true↔Blank t):=by
 obtain ⟨b,h1,h2,h3⟩:=Ts t.1 t.2.1 t.2.2.1 t.2.2.2.1 t.2.2.2.2.1 t.2.2.2.2.2.1;have:v8 t=b:=by unfold v8;rw [h1]
 rw [this];exact ⟨h1,h2,h3⟩
def L4 (t:mR):Prop:=afz t.1 t.2.1 t.2.2.1 t.2.2.2.1 t.2.2.2.2.1 t.2.2.2.2.2.1
noncomputable def Jp (t:mR):Bool:=match eQ t.1 t.2.1 t.2.2.1 t.2.2.2.1 t.2.2.2.2.1 t.2.2.2.2.2.1 with | some x=>x.1 | none=>false
theorem Fc (t:mR) (h:t.2.2.2.2.2.1.length≤1048576):eQ t.1 t.2.1 t.2.2.1 t.2.2.2.1 t.2.2.2.2.1 t.2.2.2.2.2.1=some (Jp t,())∧ie t.1 t.2.1 t.2.2.1 t.2.2.2.1 t.2.2.2.2.1 t.2.2.2.2.2.1=some (Jp t,())∧(Jp t=true↔L4 t):=by
 obtain ⟨b,h1,h2,h3⟩:=KR t.1 t.2.1 t.2.2.1 t.2.2.2.1 t.2.2.2.2.1 t.2.2.2.2.2.1 h;have:Jp t=b:=by unfold Jp;rw [h1]
 rw [this];exact ⟨h1,h2,h3⟩
noncomputable def dB (xs:aW):Nat:=match gX xs with | some x=>x.1.toNat | none=>0
theorem zu (xs:aW) (h:xs.length≤1048576):gX xs=some (((dB xs:Nat):Int),())∧jH xs=some (((dB xs:Nat):Int),())∧Rc xs (dB xs):=by
 obtain ⟨n,h1,h2,h3⟩:=DZ xs h;have:dB xs=n:=by unfold dB;rw [h1];rfl
 rw [this];exact ⟨h1,h2,h3⟩
structure qW (m:iA):Prop where
 ring:oR m.2.1 m.2.2.1
 mem:(m.1,())∈m.2.2.1
 items:eV m.2.2.2.1 m.2.2.2.1.length
 texts:m.2.2.2.2.2.1.length≤20∧m.2.2.2.2.1.length=m.2.2.2.2.2.1.length
 Xx:xP m.2.2.2.2.1 m.2.2.2.2.1.length
 short:kx m.2.2.2.2.2.1 m.2.2.2.2.2.1.length
 round:0≤m.2.2.2.2.2.2.1∧m.2.2.2.2.2.2.1≤1000000000
 seen:0≤m.2.2.2.2.2.2.2.1∧m.2.2.2.2.2.2.2.1≤60
 line:0≤m.2.2.2.2.2.2.2.2.1∧m.2.2.2.2.2.2.2.2.1≤((dB m.2.2.2.1:Nat):Int)
 heard:0≤m.2.2.2.2.2.2.2.2.2.1∧m.2.2.2.2.2.2.2.2.2.1≤((dB m.2.2.2.1:Nat):Int)
 last:Blank (m.2.2.2.2.2.2.2.2.2.2.1,m.2.2.2.2.2.2.2.2.2.2.2.1,m.2.2.2.2.2.2.2.2.2.2.2.2.1,m.2.2.2.2.2.2.2.2.2.2.2.2.2.1,m.2.2.2.2.2.2.2.2.2.2.2.2.2.2.1,m.2.2.2.2.2.2.2.2.2.2.2.2.2.2.2.1,())∨L4 (m.2.2.2.2.2.2.2.2.2.2.1,m.2.2.2.2.2.2.2.2.2.2.2.1,m.2.2.2.2.2.2.2.2.2.2.2.2.1,m.2.2.2.2.2.2.2.2.2.2.2.2.2.1,m.2.2.2.2.2.2.2.2.2.2.2.2.2.2.1,m.2.2.2.2.2.2.2.2.2.2.2.2.2.2.2.1,())
def ma (m:iA):Nat:=(List.length m.2.2.1+wl jK m.2.2.1)+(List.length m.2.2.2.1+wl dD m.2.2.2.1)+(List.length m.2.2.2.2.1+wl jK m.2.2.2.2.1)+(List.length m.2.2.2.2.2.1+wl Jo m.2.2.2.2.2.1)+(List.length m.2.2.2.2.2.2.2.2.2.2.2.2.2.2.2.1+wl jK m.2.2.2.2.2.2.2.2.2.2.2.2.2.2.2.1)
noncomputable def uC (m:iA):Bool:=match fe m.1 m.2.1 m.2.2.1 m.2.2.2.1 m.2.2.2.2.1 m.2.2.2.2.2.1 m.2.2.2.2.2.2.1 m.2.2.2.2.2.2.2.1 m.2.2.2.2.2.2.2.2.1 m.2.2.2.2.2.2.2.2.2.1 m.2.2.2.2.2.2.2.2.2.2.1 m.2.2.2.2.2.2.2.2.2.2.2.1 m.2.2.2.2.2.2.2.2.2.2.2.2.1 m.2.2.2.2.2.2.2.2.2.2.2.2.2.1 m.2.2.2.2.2.2.2.2.2.2.2.2.2.2.1 m.2.2.2.2.2.2.2.2.2.2.2.2.2.2.2.1 with | some x=>x.1 | none=>false
theorem tH (m:iA) (h0:ma m≤1048576):fe m.1 m.2.1 m.2.2.1 m.2.2.2.1 m.2.2.2.2.1 m.2.2.2.2.2.1 m.2.2.2.2.2.2.1 m.2.2.2.2.2.2.2.1 m.2.2.2.2.2.2.2.2.1 m.2.2.2.2.2.2.2.2.2.1 m.2.2.2.2.2.2.2.2.2.2.1 m.2.2.2.2.2.2.2.2.2.2.2.1 m.2.2.2.2.2.2.2.2.2.2.2.2.1 m.2.2.2.2.2.2.2.2.2.2.2.2.2.1 m.2.2.2.2.2.2.2.2.2.2.2.2.2.2.1 m.2.2.2.2.2.2.2.2.2.2.2.2.2.2.2.1=some (uC m,())∧gJ m.1 m.2.1 m.2.2.1 m.2.2.2.1 m.2.2.2.2.1 m.2.2.2.2.2.1 m.2.2.2.2.2.2.1 m.2.2.2.2.2.2.2.1 m.2.2.2.2.2.2.2.2.1 m.2.2.2.2.2.2.2.2.2.1 m.2.2.2.2.2.2.2.2.2.2.1 m.2.2.2.2.2.2.2.2.2.2.2.1 m.2.2.2.2.2.2.2.2.2.2.2.2.1 m.2.2.2.2.2.2.2.2.2.2.2.2.2.1 m.2.2.2.2.2.2.2.2.2.2.2.2.2.2.1 m.2.2.2.2.2.2.2.2.2.2.2.2.2.2.2.1=some (uC m,())∧(uC m=true↔qW m):=by
 obtain ⟨b,k1,k2⟩:=FW m.1 m.2.1 m.2.2.1 m.2.2.2.1 m.2.2.2.2.1 m.2.2.2.2.2.1 m.2.2.2.2.2.2.1 m.2.2.2.2.2.2.2.1 m.2.2.2.2.2.2.2.2.1 m.2.2.2.2.2.2.2.2.2.1 m.2.2.2.2.2.2.2.2.2.2.1 m.2.2.2.2.2.2.2.2.2.2.2.1 m.2.2.2.2.2.2.2.2.2.2.2.2.1 m.2.2.2.2.2.2.2.2.2.2.2.2.2.1 m.2.2.2.2.2.2.2.2.2.2.2.2.2.2.1 m.2.2.2.2.2.2.2.2.2.2.2.2.2.2.2.1 h0;have hb:uC m=b:=by unfold uC;rw [k1]
 rw [hb];refine ⟨k1,k2,?_⟩;unfold ma at h0;obtain ⟨r1,_,r3⟩:=uB m.2.1 m.2.2.1 (by omega);have c1:=zp m.2.2.1 m.1 (by omega);obtain ⟨i1,_,i3⟩:=oS m.2.2.2.1 (by omega);obtain ⟨b4,t1,t2⟩:=CN m.2.2.2.2.1 m.2.2.2.2.2.1 (by omega) (by omega);obtain ⟨a1,a2,a3⟩:=zu m.2.2.2.1 (by omega);have z1:fm m.2.2.2.2.2.2.2.2.2.2.1 m.2.2.2.2.2.2.2.2.2.2.2.1 m.2.2.2.2.2.2.2.2.2.2.2.2.1 m.2.2.2.2.2.2.2.2.2.2.2.2.2.1 m.2.2.2.2.2.2.2.2.2.2.2.2.2.2.1 m.2.2.2.2.2.2.2.2.2.2.2.2.2.2.2.1=some (v8 (m.2.2.2.2.2.2.2.2.2.2.1,m.2.2.2.2.2.2.2.2.2.2.2.1,m.2.2.2.2.2.2.2.2.2.2.2.2.1,m.2.2.2.2.2.2.2.2.2.2.2.2.2.1,m.2.2.2.2.2.2.2.2.2.2.2.2.2.2.1,m.2.2.2.2.2.2.2.2.2.2.2.2.2.2.2.1,()),()):=(wa (m.2.2.2.2.2.2.2.2.2.2.1,m.2.2.2.2.2.2.2.2.2.2.2.1,m.2.2.2.2.2.2.2.2.2.2.2.2.1,m.2.2.2.2.2.2.2.2.2.2.2.2.2.1,m.2.2.2.2.2.2.2.2.2.2.2.2.2.2.1,m.2.2.2.2.2.2.2.2.2.2.2.2.2.2.2.1,())).1;have z3:=(wa (m.2.2.2.2.2.2.2.2.2.2.1,m.2.2.2.2.2.2.2.2.2.2.2.1,m.2.2.2.2.2.2.2.2.2.2.2.2.1,m.2.2.2.2.2.2.2.2.2.2.2.2.2.1,m.2.2.2.2.2.2.2.2.2.2.2.2.2.2.1,m.2.2.2.2.2.2.2.2.2.2.2.2.2.2.2.1,())).2.2;have w1:eQ m.2.2.2.2.2.2.2.2.2.2.1 m.2.2.2.2.2.2.2.2.2.2.2.1 m.2.2.2.2.2.2.2.2.2.2.2.2.1 m.2.2.2.2.2.2.2.2.2.2.2.2.2.1 m.2.2.2.2.2.2.2.2.2.2.2.2.2.2.1 m.2.2.2.2.2.2.2.2.2.2.2.2.2.2.2.1=some (Jp (m.2.2.2.2.2.2.2.2.2.2.1,m.2.2.2.2.2.2.2.2.2.2.2.1,m.2.2.2.2.2.2.2.2.2.2.2.2.1,m.2.2.2.2.2.2.2.2.2.2.2.2.2.1,m.2.2.2.2.2.2.2.2.2.2.2.2.2.2.1,m.2.2.2.2.2.2.2.2.2.2.2.2.2.2.2.1,()),()):=(Fc (m.2.2.2.2.2.2.2.2.2.2.1,m.2.2.2.2.2.2.2.2.2.2.2.1,m.2.2.2.2.2.2.2.2.2.2.2.2.1,m.2.2.2.2.2.2.2.2.2.2.2.2.2.1,m.2.2.2.2.2.2.2.2.2.2.2.2.2.2.1,m.2.2.2.2.2.2.2.2.2.2.2.2.2.2.2.1,()) (by show m.2.2.2.2.2.2.2.2.2.2.2.2.2.2.2.1.length≤_;omega)).1;have w3:=(Fc (m.2.2.2.2.2.2.2.2.2.2.1,m.2.2.2.2.2.2.2.2.2.2.2.1,m.2.2.2.2.2.2.2.2.2.2.2.2.1,m.2.2.2.2.2.2.2.2.2.2.2.2.2.1,m.2.2.2.2.2.2.2.2.2.2.2.2.2.2.1,m.2.2.2.2.2.2.2.2.2.2.2.2.2.2.2.1,()) (by show m.2.2.2.2.2.2.2.2.2.2.2.2.2.2.2.1.length≤_;omega)).2.2;unfold fe at k1;simp only [r1,c1,i1,t1,a1,z1,w1,mv,Option.bind_some] at k1
 cases e1:B6 m.2.1 m.2.2.1
 ·rw [e1] at k1;injection k1 with k1;injection k1 with k1 _;subst k1;exact ⟨fun h=>(by cases h),fun h=>by rw [r3.2 h.ring] at e1;cases e1⟩
 by_cases e2:(m.1,())∈m.2.2.1
 case neg=>
  rw [e1,aq e2] at k1;injection k1 with k1;injection k1 with k1 _;subst k1;exact ⟨fun h=>(by cases h),fun h=>absurd h.mem e2⟩
 cases e3:mS m.2.2.2.1
 ·rw [e1,ak e2,e3] at k1;injection k1 with k1;injection k1 with k1 _;subst k1;exact ⟨fun h=>(by cases h),fun h=>by rw [i3.2 h.items] at e3;cases e3⟩
 cases b4
 ·rw [e1,ak e2,e3] at k1;injection k1 with k1;injection k1 with k1 _;subst k1;exact ⟨fun h=>(by cases h),fun h=>by have:=t2.2 ⟨h.texts.1,h.texts.2,h.Xx,h.short⟩;cases this⟩
 rw [e1,ak e2,e3] at k1;simp only [Bool.not_true,cond_false] at k1
 cases e5:(decide ((0:Int)≤m.2.2.2.2.2.2.1)&&decide (m.2.2.2.2.2.2.1≤1000000000))
 ·rw [e5] at k1;injection k1 with k1;injection k1 with k1 _;subst k1;exact ⟨fun h=>(by cases h),fun h=>by rw [qM.2 h.round] at e5;cases e5⟩
 cases e6:(decide ((0:Int)≤m.2.2.2.2.2.2.2.1)&&decide (m.2.2.2.2.2.2.2.1≤60))
 ·rw [e5,e6] at k1;injection k1 with k1;injection k1 with k1 _;subst k1;exact ⟨fun h=>(by cases h),fun h=>by rw [qM.2 h.seen] at e6;cases e6⟩
 cases e8:(decide ((0:Int)≤m.2.2.2.2.2.2.2.2.1)&&decide (m.2.2.2.2.2.2.2.2.1≤((dB m.2.2.2.1:Nat):Int)))
 ·rw [e5,e6,e8] at k1;injection k1 with k1;injection k1 with k1 _;subst k1;exact ⟨fun h=>(by cases h),fun h=>by rw [qM.2 h.line] at e8;cases e8⟩
 cases e9:(decide ((0:Int)≤m.2.2.2.2.2.2.2.2.2.1)&&decide (m.2.2.2.2.2.2.2.2.2.1≤((dB m.2.2.2.1:Nat):Int)))
 ·rw [e5,e6,e8,e9] at k1;injection k1 with k1;injection k1 with k1 _;subst k1;exact ⟨fun h=>(by cases h),fun h=>by rw [qM.2 h.heard] at e9;cases e9⟩
 rw [e5,e6,e8,e9] at k1;obtain ⟨t3,t4,t5,t6⟩:=t2.1 rfl;have mk:(Blank (m.2.2.2.2.2.2.2.2.2.2.1,m.2.2.2.2.2.2.2.2.2.2.2.1,m.2.2.2.2.2.2.2.2.2.2.2.2.1,m.2.2.2.2.2.2.2.2.2.2.2.2.2.1,m.2.2.2.2.2.2.2.2.2.2.2.2.2.2.1,m.2.2.2.2.2.2.2.2.2.2.2.2.2.2.2.1,())∨L4 (m.2.2.2.2.2.2.2.2.2.2.1,m.2.2.2.2.2.2.2.2.2.2.2.1,m.2.2.2.2.2.2.2.2.2.2.2.2.1,m.2.2.2.2.2.2.2.2.2.2.2.2.2.1,m.2.2.2.2.2.2.2.2.2.2.2.2.2.2.1,m.2.2.2.2.2.2.2.2.2.2.2.2.2.2.2.1,()))→qW m:=fun hl=>⟨r3.1 e1,e2,i3.1 e3,⟨t3,t4⟩,t5,t6,lB e5,lB e6,lB e8,lB e9,hl⟩
 cases e10:v8 (m.2.2.2.2.2.2.2.2.2.2.1,m.2.2.2.2.2.2.2.2.2.2.2.1,m.2.2.2.2.2.2.2.2.2.2.2.2.1,m.2.2.2.2.2.2.2.2.2.2.2.2.2.1,m.2.2.2.2.2.2.2.2.2.2.2.2.2.2.1,m.2.2.2.2.2.2.2.2.2.2.2.2.2.2.2.1,())
 ·rw [e10] at k1
  cases e11:Jp (m.2.2.2.2.2.2.2.2.2.2.1,m.2.2.2.2.2.2.2.2.2.2.2.1,m.2.2.2.2.2.2.2.2.2.2.2.2.1,m.2.2.2.2.2.2.2.2.2.2.2.2.2.1,m.2.2.2.2.2.2.2.2.2.2.2.2.2.2.1,m.2.2.2.2.2.2.2.2.2.2.2.2.2.2.2.1,())
  ·rw [e11] at k1;injection k1 with k1;injection k1 with k1 _;subst k1;refine ⟨fun h=>(by cases h),fun h => ?_⟩;rcases h.last with q | q
   ·rw [z3.2 q] at e10;cases e10
   ·rw [w3.2 q] at e11;cases e11
  ·rw [e11] at k1;injection k1 with k1;injection k1 with k1 _;subst k1;exact ⟨fun _=>mk (.inr (w3.1 e11)),fun _=>rfl⟩
 ·rw [e10] at k1;injection k1 with k1;injection k1 with k1 _;subst k1;exact ⟨fun _=>mk (.inl (z3.1 e10)),fun _=>rfl⟩
theorem qW.small {m:iA} (h:qW m):ma m≤5000:=by
 have h1:=dv _ h.items;have h2:=FX _ h.short;have h3:=h.texts;have h4:=h.ring.2.1;have h5:m.2.2.2.2.2.2.2.2.2.2.2.2.2.2.2.1.length≤20:=by
  rcases h.last with q | q
  ·rw [show m.2.2.2.2.2.2.2.2.2.2.2.2.2.2.2.1=[] from q.2.2.2.2.2];exact Nat.zero_le _
  ·exact q.2.2.2.2.2.1
 unfold ma;rw [mW jK (fun _=>rfl),mW jK (fun _=>rfl),mW jK (fun _=>rfl)];omega
end Go.TM
set_option linter.unusedSimpArgs false
set_option linter.unusedVariables false
namespace Go.TM
open Go
theorem Iu (b x:Bool):(bif b then some (x,()) else some (false,()))=some ((b&&x),()):=by cases b<;>rfl
theorem NU (b x:Bool):(bif !b then some (false,()) else some (x,()))=some ((b&&x),()):=by cases b<;>rfl
theorem uS (c:Int) (xs:List (Int×Unit)):fH c xs=some ((decide (c=0)&&decide (((List.length xs:Nat):Int)=0)),())∧js c xs=some ((decide (c=0)&&decide (((List.length xs:Nat):Int)=0)),()):=by
 unfold fH js;simp only [Iu];exact ⟨trivial,trivial⟩
theorem FY (eC:Int) (ek:Int) (dM:List (Int×Unit)) (dJ:aW) (dk:List (Int×Unit)) (dN:List (ByteArray×Unit)) (eN eZ fa fc cG cH cI cJ cK:Int) (cz:List (Int×Unit)):∃b,gk eC ek dM dJ dk dN eN eZ fa fc cG cH cI cJ cK cz=some (b,())∧gY eC ek dM dJ dk dN eN eZ fa fc cG cH cI cJ cK cz=some (b,())∧(b=true→ek=0):=by
 obtain ⟨b6,z1,z2⟩:=zr cG cH cI cJ cK cz;obtain ⟨n1,n2⟩:=uS ek dM;unfold gk gY;simp only [z1,z2,n1,n2,Option.bind_some,Iu,NU];refine ⟨_,rfl,?_,fun h => ?_⟩
 ·congr 2
  ac_rfl
 ·simp only [Bool.and_eq_true,decide_eq_true_eq] at h;exact h.2.1.1
theorem Jq (bJ:Int) (bV:Bool) (bU:Int) (bK:Int) (bL:List (Int×Unit)) (aC:aW) (bR:List (Int×Unit)) (bS:List (ByteArray×Unit)) (bX:Int) (cf:Int) (bk:Int) (bd:Int) (bl:Int) (bm:Int) (bn:Int) (bo:Int) (bp:Int) (bf:List (Int×Unit)) (aZ:Int) (aV:Int) (aS:Int) (aQ:List (Int×Unit)) (aX:List (Int×Int×Int×(List (Int×Int×Int×ByteArray×Unit))×Unit)) (bc:List (Int×Int×(List (Int×Unit))×Int×Int×Int×ByteArray×(List (Int×Unit))×Unit)) (h0:(List.length bL+wl jK bL)+(List.length aC+wl dD aC)+(List.length bR+wl jK bR)+(List.length bS+wl Jo bS)+(List.length bf+wl jK bf)+(List.length aQ+wl jK aQ)+(List.length aX+wl dX aX)+(List.length bc+wl bu bc)≤1048576):∃o0,fo bJ bV bU bK bL aC bR bS bX cf bk bd bl bm bn bo bp bf aZ aV aS aQ aX bc=some (o0,())∧dz bJ bV bU bK bL aC bR bS bX cf bk bd bl bm bn bo bp bf aZ aV aS aQ aX bc=some (o0,()):=by
 have hm0:(List.length bL+wl jK bL)+(List.length aC+wl dD aC)+(List.length bR+wl jK bR)+(List.length bS+wl Jo bS)+(List.length bf+wl jK bf)≤1048576:=by omega
 obtain ⟨nm,n1,n2,n3⟩:=FY bU bK bL aC bR bS bX cf bk bd bl bm bn bo bp bf;obtain ⟨b,k1,k2,_⟩:=WE bU bK bL aC bR bS bX cf bk bd bl bm bn bo bp bf hm0;obtain ⟨r1,r2⟩:=uS aS aQ;obtain ⟨b8,q1,q2,_⟩:=BC aS aQ (by omega);obtain ⟨b9,c1,c2⟩:=oQ bJ aQ (by omega);obtain ⟨e,f,g1,g2,g3⟩:∃e f,aI eJ (bJ,bV,bU,bK,bL,aC,bR,bS,bX,cf,bk,bd,bl,bm,bn,bo,bp,bf,aZ,aV,aS,aQ,aX,bc,(0:Int),())=some e∧aI fJ (bJ,bV,bU,bK,bL,aC,bR,bS,bX,cf,bk,bd,bl,bm,bn,bo,bp,bf,aZ,aV,aS,aQ,aX,bc,aX,((List.length aX:Nat):Int),(0:Int),())=some f∧
   ((e=.inl ()∧f=.inl (bJ,bV,bU,bK,bL,aC,bR,bS,bX,cf,bk,bd,bl,bm,bn,bo,bp,bf,aZ,aV,aS,aQ,aX,bc,()))∨(e=.inr (false,())∧f=.inr (bJ,bV,bU,bK,bL,aC,bR,bS,bX,cf,bk,bd,bl,bm,bn,bo,bp,bf,aZ,aV,aS,aQ,aX,bc,false,()))):=by
  refine pW aX.length (fun k x y=>x=(bJ,bV,bU,bK,bL,aC,bR,bS,bX,cf,bk,bd,bl,bm,bn,bo,bp,bf,aZ,aV,aS,aQ,aX,bc,((k:Nat):Int),())∧y=(bJ,bV,bU,bK,bL,aC,bR,bS,bX,cf,bk,bd,bl,bm,bn,bo,bp,bf,aZ,aV,aS,aQ,aX,bc,aX,((List.length aX:Nat):Int),((k:Nat):Int),())) _ ?_ ⟨rfl,rfl⟩
  rintro k x y hk ⟨rfl,rfl⟩
  by_cases dS:k<aX.length
  ·have hw:=Hw dX aX aX[k] (List.getElem_mem dS);have hl:(aX[k].2.2.2.1).length≤1048576:=by
    have:dX aX[k]=List.length aX[k].2.2.2.1+wl dD aX[k].2.2.2.1:=rfl;omega
   obtain ⟨x,v1,v2⟩:=FV aX[k].1 aX[k].2.1 aX[k].2.2.1 aX[k].2.2.2.1 hl;simp only [eJ,az,lh,aw,fJ,az,kN,aw,aD dS,ax,cond_true,aF,List.getElem?_eq_getElem dS,Option.bind_some,v1,v2,aN (show k<4611686018427387904 by omega)]
   cases x
   ·exact .inl ⟨_,_,rfl,rfl,.inr ⟨rfl,rfl⟩⟩
   ·by_cases hn:aX[k].2.1=aS
    ·rw [ak hn];exact .inr ⟨dS,_,_,rfl,rfl,rfl,rfl⟩
    ·rw [aq hn];exact .inl ⟨_,_,rfl,rfl,.inr ⟨rfl,rfl⟩⟩
  ·have:k=aX.length:=by omega
   subst this;exact .inl ⟨.inl (),.inl (bJ,bV,bU,bK,bL,aC,bR,bS,bX,cf,bk,bd,bl,bm,bn,bo,bp,bf,aZ,aV,aS,aQ,aX,bc,()),by simp only [eJ,az,lh,aw,aM,cond_false],by simp only [fJ,az,kN,aw,aM,cond_false],.inl ⟨rfl,rfl⟩⟩
 unfold fo dz fG;delta bD;simp only [mv,vY,pG,n1,n2,k1,k2,r1,r2,q1,q2,c1,c2,g1,g2,Option.bind_some]
 cases (decide (1≤bJ)&&decide (bJ≤5))
 ·exact ⟨_,rfl,rfl⟩
 cases hB:(decide (0≤aZ)&&decide (aZ≤9))
 ·exact ⟨_,rfl,rfl⟩
 have hB:=lB hB;simp only [Bool.not_true,cond_false]
 cases bV
 ·cases nm
  ·cases b
   ·by_cases o0:bU=bJ
    ·rw [ak o0];exact ⟨_,rfl,rfl⟩
    ·rw [aq o0];exact ⟨_,rfl,rfl⟩
   by_cases o0:bU=bJ
   case neg=>rw [aq o0];exact ⟨_,rfl,rfl⟩
   rw [ak o0]
   by_cases o1:aV=bK
   case neg=>rw [aq o1];exact ⟨_,rfl,rfl⟩
   rw [ak o1]
   by_cases o2:aZ<aV
   ·rw [ak o2,aq (show ¬aV≤aZ by omega)];exact ⟨_,rfl,rfl⟩
   rw [aq o2,ak (show aV≤aZ by omega)]
   cases (decide (aS=0)&&decide (((List.length aQ:Nat):Int)=0))
   ·cases b8
    ·exact ⟨_,rfl,rfl⟩
    cases b9
    ·exact ⟨_,rfl,rfl⟩
    cases (decide (IntKind.i64.wrap (aV+(1:Int))≤aS)&&decide (aS≤aZ))
    ·exact ⟨_,rfl,rfl⟩
    rcases g3 with ⟨rfl,rfl⟩ | ⟨rfl,rfl⟩
    ·exact ⟨_,rfl,rfl⟩
    ·exact ⟨_,rfl,rfl⟩
   ·exact ⟨_,rfl,rfl⟩
  ·have h3:=n3 rfl
   by_cases o1:aV=bK
   case neg=>rw [aq o1];exact ⟨_,rfl,rfl⟩
   rw [ak o1]
   by_cases o2:aZ<aV
   ·rw [ak o2,aq (show ¬aV≤aZ by omega)];exact ⟨_,rfl,rfl⟩
   rw [aq o2,ak (show aV≤aZ by omega)]
   cases (decide (aS=0)&&decide (((List.length aQ:Nat):Int)=0))
   ·cases b8
    ·exact ⟨_,rfl,rfl⟩
    cases b9
    ·exact ⟨_,rfl,rfl⟩
    cases (decide (IntKind.i64.wrap (aV+(1:Int))≤aS)&&decide (aS≤aZ))
    ·exact ⟨_,rfl,rfl⟩
    rcases g3 with ⟨rfl,rfl⟩ | ⟨rfl,rfl⟩
    ·exact ⟨_,rfl,rfl⟩
    ·exact ⟨_,rfl,rfl⟩
   ·exact ⟨_,rfl,rfl⟩
 ·cases nm
  ·exact ⟨_,rfl,rfl⟩
  have h3:=n3 rfl
  by_cases o3:aV=0
  case neg=>rw [aq o3];exact ⟨_,rfl,rfl⟩
  rw [ak o3,ak (show aV=bK by omega),ak (show aV≤aZ by omega)]
  cases (decide (aS=0)&&decide (((List.length aQ:Nat):Int)=0))
  ·exact ⟨_,rfl,rfl⟩
  by_cases o4:((List.length aX:Nat):Int)=0
  ·rw [ak o4,aq (show ¬(0:Int)<((List.length aX:Nat):Int) by omega)];exact ⟨_,rfl,rfl⟩
  ·rw [aq o4,ak (show (0:Int)<((List.length aX:Nat):Int) by omega)];exact ⟨_,rfl,rfl⟩
end Go.TM
set_option linter.unusedSimpArgs false
set_option linter.unusedVariables false
namespace Go.TM
open Go
abbrev aJ (d:bZ):iA:=(d.2.2.1,d.2.2.2.1,d.2.2.2.2.1,d.2.2.2.2.2.1,d.2.2.2.2.2.2.1,d.2.2.2.2.2.2.2.1,d.2.2.2.2.2.2.2.2.1,d.2.2.2.2.2.2.2.2.2.1,d.2.2.2.2.2.2.2.2.2.2.1,d.2.2.2.2.2.2.2.2.2.2.2.1,d.2.2.2.2.2.2.2.2.2.2.2.2.1,d.2.2.2.2.2.2.2.2.2.2.2.2.2.1,d.2.2.2.2.2.2.2.2.2.2.2.2.2.2.1,d.2.2.2.2.2.2.2.2.2.2.2.2.2.2.2.1,d.2.2.2.2.2.2.2.2.2.2.2.2.2.2.2.2.1,d.2.2.2.2.2.2.2.2.2.2.2.2.2.2.2.2.2.1,())
def KW (m:iA):Prop:=m.1=0∧m.2.1=0∧m.2.2.1=[]∧m.2.2.2.1=[]∧m.2.2.2.2.1=[]∧m.2.2.2.2.2.1=[]∧m.2.2.2.2.2.2.1=0∧m.2.2.2.2.2.2.2.1=0∧m.2.2.2.2.2.2.2.2.1=0∧m.2.2.2.2.2.2.2.2.2.1=0∧Blank (m.2.2.2.2.2.2.2.2.2.2.1,m.2.2.2.2.2.2.2.2.2.2.2.1,m.2.2.2.2.2.2.2.2.2.2.2.2.1,m.2.2.2.2.2.2.2.2.2.2.2.2.2.1,m.2.2.2.2.2.2.2.2.2.2.2.2.2.2.1,m.2.2.2.2.2.2.2.2.2.2.2.2.2.2.2.1,())
noncomputable def Bf (m:iA):Bool:=match gk m.1 m.2.1 m.2.2.1 m.2.2.2.1 m.2.2.2.2.1 m.2.2.2.2.2.1 m.2.2.2.2.2.2.1 m.2.2.2.2.2.2.2.1 m.2.2.2.2.2.2.2.2.1 m.2.2.2.2.2.2.2.2.2.1 m.2.2.2.2.2.2.2.2.2.2.1 m.2.2.2.2.2.2.2.2.2.2.2.1 m.2.2.2.2.2.2.2.2.2.2.2.2.1 m.2.2.2.2.2.2.2.2.2.2.2.2.2.1 m.2.2.2.2.2.2.2.2.2.2.2.2.2.2.1 m.2.2.2.2.2.2.2.2.2.2.2.2.2.2.2.1 with | some x=>x.1 | none=>false
theorem YM {α:Type} (xs:List α):((List.length xs:Nat):Int)=0↔xs=[]:=by rw [←List.length_eq_zero_iff];omega
theorem NV (m:iA):gk m.1 m.2.1 m.2.2.1 m.2.2.2.1 m.2.2.2.2.1 m.2.2.2.2.2.1 m.2.2.2.2.2.2.1 m.2.2.2.2.2.2.2.1 m.2.2.2.2.2.2.2.2.1 m.2.2.2.2.2.2.2.2.2.1 m.2.2.2.2.2.2.2.2.2.2.1 m.2.2.2.2.2.2.2.2.2.2.2.1 m.2.2.2.2.2.2.2.2.2.2.2.2.1 m.2.2.2.2.2.2.2.2.2.2.2.2.2.1 m.2.2.2.2.2.2.2.2.2.2.2.2.2.2.1 m.2.2.2.2.2.2.2.2.2.2.2.2.2.2.2.1=some (Bf m,())∧gY m.1 m.2.1 m.2.2.1 m.2.2.2.1 m.2.2.2.2.1 m.2.2.2.2.2.1 m.2.2.2.2.2.2.1 m.2.2.2.2.2.2.2.1 m.2.2.2.2.2.2.2.2.1 m.2.2.2.2.2.2.2.2.2.1 m.2.2.2.2.2.2.2.2.2.2.1 m.2.2.2.2.2.2.2.2.2.2.2.1 m.2.2.2.2.2.2.2.2.2.2.2.2.1 m.2.2.2.2.2.2.2.2.2.2.2.2.2.1 m.2.2.2.2.2.2.2.2.2.2.2.2.2.2.1 m.2.2.2.2.2.2.2.2.2.2.2.2.2.2.2.1=some (Bf m,())∧(Bf m=true↔KW m):=by
 obtain ⟨b,k1,k2,_⟩:=FY m.1 m.2.1 m.2.2.1 m.2.2.2.1 m.2.2.2.2.1 m.2.2.2.2.2.1 m.2.2.2.2.2.2.1 m.2.2.2.2.2.2.2.1 m.2.2.2.2.2.2.2.2.1 m.2.2.2.2.2.2.2.2.2.1 m.2.2.2.2.2.2.2.2.2.2.1 m.2.2.2.2.2.2.2.2.2.2.2.1 m.2.2.2.2.2.2.2.2.2.2.2.2.1 m.2.2.2.2.2.2.2.2.2.2.2.2.2.1 m.2.2.2.2.2.2.2.2.2.2.2.2.2.2.1 m.2.2.2.2.2.2.2.2.2.2.2.2.2.2.2.1;have hb:Bf m=b:=by unfold Bf;rw [k1]
 rw [hb];refine ⟨k1,k2,?_⟩;have z1:dK m.2.2.2.2.2.2.2.2.2.2.1 m.2.2.2.2.2.2.2.2.2.2.2.1 m.2.2.2.2.2.2.2.2.2.2.2.2.1 m.2.2.2.2.2.2.2.2.2.2.2.2.2.1 m.2.2.2.2.2.2.2.2.2.2.2.2.2.2.1 m.2.2.2.2.2.2.2.2.2.2.2.2.2.2.2.1=some (v8 (m.2.2.2.2.2.2.2.2.2.2.1,m.2.2.2.2.2.2.2.2.2.2.2.1,m.2.2.2.2.2.2.2.2.2.2.2.2.1,m.2.2.2.2.2.2.2.2.2.2.2.2.2.1,m.2.2.2.2.2.2.2.2.2.2.2.2.2.2.1,m.2.2.2.2.2.2.2.2.2.2.2.2.2.2.2.1,()),()):=(wa (m.2.2.2.2.2.2.2.2.2.2.1,m.2.2.2.2.2.2.2.2.2.2.2.1,m.2.2.2.2.2.2.2.2.2.2.2.2.1,m.2.2.2.2.2.2.2.2.2.2.2.2.2.1,m.2.2.2.2.2.2.2.2.2.2.2.2.2.2.1,m.2.2.2.2.2.2.2.2.2.2.2.2.2.2.2.1,())).2.1;have z2:fm m.2.2.2.2.2.2.2.2.2.2.1 m.2.2.2.2.2.2.2.2.2.2.2.1 m.2.2.2.2.2.2.2.2.2.2.2.2.1 m.2.2.2.2.2.2.2.2.2.2.2.2.2.1 m.2.2.2.2.2.2.2.2.2.2.2.2.2.2.1 m.2.2.2.2.2.2.2.2.2.2.2.2.2.2.2.1=some (v8 (m.2.2.2.2.2.2.2.2.2.2.1,m.2.2.2.2.2.2.2.2.2.2.2.1,m.2.2.2.2.2.2.2.2.2.2.2.2.1,m.2.2.2.2.2.2.2.2.2.2.2.2.2.1,m.2.2.2.2.2.2.2.2.2.2.2.2.2.2.1,m.2.2.2.2.2.2.2.2.2.2.2.2.2.2.2.1,()),()):=(wa (m.2.2.2.2.2.2.2.2.2.2.1,m.2.2.2.2.2.2.2.2.2.2.2.1,m.2.2.2.2.2.2.2.2.2.2.2.2.1,m.2.2.2.2.2.2.2.2.2.2.2.2.2.1,m.2.2.2.2.2.2.2.2.2.2.2.2.2.2.1,m.2.2.2.2.2.2.2.2.2.2.2.2.2.2.2.1,())).1;have z3:=(wa (m.2.2.2.2.2.2.2.2.2.2.1,m.2.2.2.2.2.2.2.2.2.2.2.1,m.2.2.2.2.2.2.2.2.2.2.2.2.1,m.2.2.2.2.2.2.2.2.2.2.2.2.2.1,m.2.2.2.2.2.2.2.2.2.2.2.2.2.2.1,m.2.2.2.2.2.2.2.2.2.2.2.2.2.2.2.1,())).2.2;obtain ⟨n1,n2⟩:=uS m.2.1 m.2.2.1;unfold gk at k1;simp only [z2,n1,Option.bind_some,Iu,NU] at k1;injection k1 with k1;injection k1 with k1 _;rw [←k1];unfold KW;simp only [Bool.and_eq_true,decide_eq_true_eq,YM,z3]
 constructor
 ·rintro ⟨a1,⟨a2,a3⟩,a4,a5,a6,a7,a8,a9,a10,a11⟩
  exact ⟨a1,a2,a3,a4,a5,a6,a7,a8,a9,a10,a11⟩
 ·rintro ⟨a1,a2,a3,a4,a5,a6,a7,a8,a9,a10,a11⟩
  exact ⟨a1,⟨a2,a3⟩,a4,a5,a6,a7,a8,a9,a10,a11⟩
structure xR (d:bZ):Prop where
 id:1≤d.1∧d.1≤5
 xS:0≤d.2.2.2.2.2.2.2.2.2.2.2.2.2.2.2.2.2.2.1∧d.2.2.2.2.2.2.2.2.2.2.2.2.2.2.2.2.2.2.1≤9
 dead:d.2.1=true→KW (aJ d)∧d.2.2.2.2.2.2.2.2.2.2.2.2.2.2.2.2.2.2.2.1=0∧d.2.2.2.2.2.2.2.2.2.2.2.2.2.2.2.2.2.2.2.2.1=0∧d.2.2.2.2.2.2.2.2.2.2.2.2.2.2.2.2.2.2.2.2.2.1=[]∧d.2.2.2.2.2.2.2.2.2.2.2.2.2.2.2.2.2.2.2.2.2.2.1=[]
 tI:KW (aJ d)∨(qW (aJ d)∧d.2.2.1=d.1)
 old:d.2.2.2.2.2.2.2.2.2.2.2.2.2.2.2.2.2.2.2.1=d.2.2.2.1∧d.2.2.2.2.2.2.2.2.2.2.2.2.2.2.2.2.2.2.2.1≤d.2.2.2.2.2.2.2.2.2.2.2.2.2.2.2.2.2.2.1
 nH:(d.2.2.2.2.2.2.2.2.2.2.2.2.2.2.2.2.2.2.2.2.1=0∧d.2.2.2.2.2.2.2.2.2.2.2.2.2.2.2.2.2.2.2.2.2.1=[]∧d.2.2.2.2.2.2.2.2.2.2.2.2.2.2.2.2.2.2.2.2.2.2.1=[])∨(oR d.2.2.2.2.2.2.2.2.2.2.2.2.2.2.2.2.2.2.2.2.1 d.2.2.2.2.2.2.2.2.2.2.2.2.2.2.2.2.2.2.2.2.2.1∧(d.1,())∈d.2.2.2.2.2.2.2.2.2.2.2.2.2.2.2.2.2.2.2.2.2.1∧(d.2.2.2.2.2.2.2.2.2.2.2.2.2.2.2.2.2.2.2.1+1≤d.2.2.2.2.2.2.2.2.2.2.2.2.2.2.2.2.2.2.2.2.1∧d.2.2.2.2.2.2.2.2.2.2.2.2.2.2.2.2.2.2.2.2.1≤d.2.2.2.2.2.2.2.2.2.2.2.2.2.2.2.2.2.2.1)∧∀b∈d.2.2.2.2.2.2.2.2.2.2.2.2.2.2.2.2.2.2.2.2.2.2.1,D2 b∧b.2.1=d.2.2.2.2.2.2.2.2.2.2.2.2.2.2.2.2.2.2.2.2.1)
def mT (d:bZ):Nat:=(List.length d.2.2.2.2.1+wl jK d.2.2.2.2.1)+(List.length d.2.2.2.2.2.1+wl dD d.2.2.2.2.2.1)+(List.length d.2.2.2.2.2.2.1+wl jK d.2.2.2.2.2.2.1)+(List.length d.2.2.2.2.2.2.2.1+wl Jo d.2.2.2.2.2.2.2.1)+(List.length d.2.2.2.2.2.2.2.2.2.2.2.2.2.2.2.2.2.1+wl jK d.2.2.2.2.2.2.2.2.2.2.2.2.2.2.2.2.2.1)+(List.length d.2.2.2.2.2.2.2.2.2.2.2.2.2.2.2.2.2.2.2.2.2.1+wl jK d.2.2.2.2.2.2.2.2.2.2.2.2.2.2.2.2.2.2.2.2.2.1)+(List.length d.2.2.2.2.2.2.2.2.2.2.2.2.2.2.2.2.2.2.2.2.2.2.1+wl dX d.2.2.2.2.2.2.2.2.2.2.2.2.2.2.2.2.2.2.2.2.2.2.1)+(List.length d.2.2.2.2.2.2.2.2.2.2.2.2.2.2.2.2.2.2.2.2.2.2.2.1+wl bu d.2.2.2.2.2.2.2.2.2.2.2.2.2.2.2.2.2.2.2.2.2.2.2.1)
noncomputable def mb (d:bZ):Bool:=match fo d.1 d.2.1 d.2.2.1 d.2.2.2.1 d.2.2.2.2.1 d.2.2.2.2.2.1 d.2.2.2.2.2.2.1 d.2.2.2.2.2.2.2.1 d.2.2.2.2.2.2.2.2.1 d.2.2.2.2.2.2.2.2.2.1 d.2.2.2.2.2.2.2.2.2.2.1 d.2.2.2.2.2.2.2.2.2.2.2.1 d.2.2.2.2.2.2.2.2.2.2.2.2.1 d.2.2.2.2.2.2.2.2.2.2.2.2.2.1 d.2.2.2.2.2.2.2.2.2.2.2.2.2.2.1 d.2.2.2.2.2.2.2.2.2.2.2.2.2.2.2.1 d.2.2.2.2.2.2.2.2.2.2.2.2.2.2.2.2.1 d.2.2.2.2.2.2.2.2.2.2.2.2.2.2.2.2.2.1 d.2.2.2.2.2.2.2.2.2.2.2.2.2.2.2.2.2.2.1 d.2.2.2.2.2.2.2.2.2.2.2.2.2.2.2.2.2.2.2.1 d.2.2.2.2.2.2.2.2.2.2.2.2.2.2.2.2.2.2.2.2.1 d.2.2.2.2.2.2.2.2.2.2.2.2.2.2.2.2.2.2.2.2.2.1 d.2.2.2.2.2.2.2.2.2.2.2.2.2.2.2.2.2.2.2.2.2.2.1 d.2.2.2.2.2.2.2.2.2.2.2.2.2.2.2.2.2.2.2.2.2.2.2.1 with | some x=>x.1 | none=>false
theorem xR.arv {d:bZ} (h:xR d):0≤d.2.2.2.2.2.2.2.2.2.2.2.2.2.2.2.2.2.2.2.1:=by
 rcases h.tI with q | ⟨q,_⟩
 ·have h1:d.2.2.2.1=0:=q.2.1;have h2:=h.old.1;omega
 ·have h1:1≤d.2.2.2.1:=q.ring.1.1;have h2:=h.old.1;omega
theorem WI (d:bZ) (h:mT d≤1048576):∃e,aI eJ (d.1,d.2.1,d.2.2.1,d.2.2.2.1,d.2.2.2.2.1,d.2.2.2.2.2.1,d.2.2.2.2.2.2.1,d.2.2.2.2.2.2.2.1,d.2.2.2.2.2.2.2.2.1,d.2.2.2.2.2.2.2.2.2.1,d.2.2.2.2.2.2.2.2.2.2.1,d.2.2.2.2.2.2.2.2.2.2.2.1,d.2.2.2.2.2.2.2.2.2.2.2.2.1,d.2.2.2.2.2.2.2.2.2.2.2.2.2.1,d.2.2.2.2.2.2.2.2.2.2.2.2.2.2.1,d.2.2.2.2.2.2.2.2.2.2.2.2.2.2.2.1,d.2.2.2.2.2.2.2.2.2.2.2.2.2.2.2.2.1,d.2.2.2.2.2.2.2.2.2.2.2.2.2.2.2.2.2.1,d.2.2.2.2.2.2.2.2.2.2.2.2.2.2.2.2.2.2.1,d.2.2.2.2.2.2.2.2.2.2.2.2.2.2.2.2.2.2.2.1,d.2.2.2.2.2.2.2.2.2.2.2.2.2.2.2.2.2.2.2.2.1,d.2.2.2.2.2.2.2.2.2.2.2.2.2.2.2.2.2.2.2.2.2.1,d.2.2.2.2.2.2.2.2.2.2.2.2.2.2.2.2.2.2.2.2.2.2.1,d.2.2.2.2.2.2.2.2.2.2.2.2.2.2.2.2.2.2.2.2.2.2.2.1,(0:Int),())=some e∧((e=.inl ()∧∀b∈d.2.2.2.2.2.2.2.2.2.2.2.2.2.2.2.2.2.2.2.2.2.2.1,D2 b∧b.2.1=d.2.2.2.2.2.2.2.2.2.2.2.2.2.2.2.2.2.2.2.2.1)∨(e=.inr (false,())∧¬∀b∈d.2.2.2.2.2.2.2.2.2.2.2.2.2.2.2.2.2.2.2.2.2.2.1,D2 b∧b.2.1=d.2.2.2.2.2.2.2.2.2.2.2.2.2.2.2.2.2.2.2.2.1)):=by
 unfold mT at h;obtain ⟨e,he,hq⟩:=dA (round:=eJ) (x:=(d.1,d.2.1,d.2.2.1,d.2.2.2.1,d.2.2.2.2.1,d.2.2.2.2.2.1,d.2.2.2.2.2.2.1,d.2.2.2.2.2.2.2.1,d.2.2.2.2.2.2.2.2.1,d.2.2.2.2.2.2.2.2.2.1,d.2.2.2.2.2.2.2.2.2.2.1,d.2.2.2.2.2.2.2.2.2.2.2.1,d.2.2.2.2.2.2.2.2.2.2.2.2.1,d.2.2.2.2.2.2.2.2.2.2.2.2.2.1,d.2.2.2.2.2.2.2.2.2.2.2.2.2.2.1,d.2.2.2.2.2.2.2.2.2.2.2.2.2.2.2.1,d.2.2.2.2.2.2.2.2.2.2.2.2.2.2.2.2.1,d.2.2.2.2.2.2.2.2.2.2.2.2.2.2.2.2.2.1,d.2.2.2.2.2.2.2.2.2.2.2.2.2.2.2.2.2.2.1,d.2.2.2.2.2.2.2.2.2.2.2.2.2.2.2.2.2.2.2.1,d.2.2.2.2.2.2.2.2.2.2.2.2.2.2.2.2.2.2.2.2.1,d.2.2.2.2.2.2.2.2.2.2.2.2.2.2.2.2.2.2.2.2.2.1,d.2.2.2.2.2.2.2.2.2.2.2.2.2.2.2.2.2.2.2.2.2.2.1,d.2.2.2.2.2.2.2.2.2.2.2.2.2.2.2.2.2.2.2.2.2.2.2.1,((0:Nat):Int),())) (d.2.2.2.2.2.2.2.2.2.2.2.2.2.2.2.2.2.2.2.2.2.2.1).length (fun k x=>x=(d.1,d.2.1,d.2.2.1,d.2.2.2.1,d.2.2.2.2.1,d.2.2.2.2.2.1,d.2.2.2.2.2.2.1,d.2.2.2.2.2.2.2.1,d.2.2.2.2.2.2.2.2.1,d.2.2.2.2.2.2.2.2.2.1,d.2.2.2.2.2.2.2.2.2.2.1,d.2.2.2.2.2.2.2.2.2.2.2.1,d.2.2.2.2.2.2.2.2.2.2.2.2.1,d.2.2.2.2.2.2.2.2.2.2.2.2.2.1,d.2.2.2.2.2.2.2.2.2.2.2.2.2.2.1,d.2.2.2.2.2.2.2.2.2.2.2.2.2.2.2.1,d.2.2.2.2.2.2.2.2.2.2.2.2.2.2.2.2.1,d.2.2.2.2.2.2.2.2.2.2.2.2.2.2.2.2.2.1,d.2.2.2.2.2.2.2.2.2.2.2.2.2.2.2.2.2.2.1,d.2.2.2.2.2.2.2.2.2.2.2.2.2.2.2.2.2.2.2.1,d.2.2.2.2.2.2.2.2.2.2.2.2.2.2.2.2.2.2.2.2.1,d.2.2.2.2.2.2.2.2.2.2.2.2.2.2.2.2.2.2.2.2.2.1,d.2.2.2.2.2.2.2.2.2.2.2.2.2.2.2.2.2.2.2.2.2.2.1,d.2.2.2.2.2.2.2.2.2.2.2.2.2.2.2.2.2.2.2.2.2.2.2.1,((k:Nat):Int),())∧∀j (hj:j<(d.2.2.2.2.2.2.2.2.2.2.2.2.2.2.2.2.2.2.2.2.2.2.1).length),j<k→D2 (d.2.2.2.2.2.2.2.2.2.2.2.2.2.2.2.2.2.2.2.2.2.2.1)[j]∧(d.2.2.2.2.2.2.2.2.2.2.2.2.2.2.2.2.2.2.2.2.2.2.1)[j].2.1=d.2.2.2.2.2.2.2.2.2.2.2.2.2.2.2.2.2.2.2.2.1)
  (fun e=>(e=.inl ()∧∀b∈d.2.2.2.2.2.2.2.2.2.2.2.2.2.2.2.2.2.2.2.2.2.2.1,D2 b∧b.2.1=d.2.2.2.2.2.2.2.2.2.2.2.2.2.2.2.2.2.2.2.2.1)∨(e=.inr (false,())∧¬∀b∈d.2.2.2.2.2.2.2.2.2.2.2.2.2.2.2.2.2.2.2.2.2.2.1,D2 b∧b.2.1=d.2.2.2.2.2.2.2.2.2.2.2.2.2.2.2.2.2.2.2.2.1)) (by
   rintro x ⟨rfl,g⟩
   refine ⟨.inl (),by simp only [eJ,az,lh,aw,aM,cond_false],.inl ⟨rfl,fun b hb => ?_⟩⟩;obtain ⟨k,hk,rfl⟩:=List.mem_iff_getElem.1 hb;exact g k hk hk) (by
   rintro k x hk ⟨rfl,g⟩
   have hl:=D0 d.2.2.2.2.2.2.2.2.2.2.2.2.2.2.2.2.2.2.2.2.2.2.1 hk (by omega);have hb:=(rR (d.2.2.2.2.2.2.2.2.2.2.2.2.2.2.2.2.2.2.2.2.2.2.1)[k] hl).1;have hi:=Rf (d.2.2.2.2.2.2.2.2.2.2.2.2.2.2.2.2.2.2.2.2.2.2.1)[k] hl;simp only [eJ,az,lh,aw,aD hk,ax,cond_true,aF,List.getElem?_eq_getElem hk,Option.bind_some,hb,aN (show k<4611686018427387904 by omega)]
   cases hv:qL (d.2.2.2.2.2.2.2.2.2.2.2.2.2.2.2.2.2.2.2.2.2.2.1)[k]
   ·exact .inl ⟨.inr (false,()),rfl,.inr ⟨rfl,fun hn=>by rw [hi.2 (hn _ (List.getElem_mem hk)).1] at hv;cases hv⟩⟩
   ·by_cases hn:(d.2.2.2.2.2.2.2.2.2.2.2.2.2.2.2.2.2.2.2.2.2.2.1)[k].2.1=d.2.2.2.2.2.2.2.2.2.2.2.2.2.2.2.2.2.2.2.2.1
    ·rw [ak hn];refine .inr ⟨_,rfl,rfl,fun j hj M9 => ?_⟩
     by_cases e:j<k
     ·exact g j hj e
     ·have:j=k:=by omega
      subst this;exact ⟨hi.1 hv,hn⟩
    ·rw [aq hn];exact .inl ⟨.inr (false,()),rfl,.inr ⟨rfl,fun hq=>hn (hq _ (List.getElem_mem hk)).2⟩⟩) ⟨rfl,fun j _ h=>by omega⟩
 exact ⟨e,he,hq⟩
theorem some_inj {a b:Bool} (h:some (a,())=some (b,())):a=b:=by
 injection h with h;injection h with h _
theorem mc (d:bZ) (h:mT d≤1048576):fo d.1 d.2.1 d.2.2.1 d.2.2.2.1 d.2.2.2.2.1 d.2.2.2.2.2.1 d.2.2.2.2.2.2.1 d.2.2.2.2.2.2.2.1 d.2.2.2.2.2.2.2.2.1 d.2.2.2.2.2.2.2.2.2.1 d.2.2.2.2.2.2.2.2.2.2.1 d.2.2.2.2.2.2.2.2.2.2.2.1 d.2.2.2.2.2.2.2.2.2.2.2.2.1 d.2.2.2.2.2.2.2.2.2.2.2.2.2.1 d.2.2.2.2.2.2.2.2.2.2.2.2.2.2.1 d.2.2.2.2.2.2.2.2.2.2.2.2.2.2.2.1 d.2.2.2.2.2.2.2.2.2.2.2.2.2.2.2.2.1 d.2.2.2.2.2.2.2.2.2.2.2.2.2.2.2.2.2.1 d.2.2.2.2.2.2.2.2.2.2.2.2.2.2.2.2.2.2.1 d.2.2.2.2.2.2.2.2.2.2.2.2.2.2.2.2.2.2.2.1 d.2.2.2.2.2.2.2.2.2.2.2.2.2.2.2.2.2.2.2.2.1 d.2.2.2.2.2.2.2.2.2.2.2.2.2.2.2.2.2.2.2.2.2.1 d.2.2.2.2.2.2.2.2.2.2.2.2.2.2.2.2.2.2.2.2.2.2.1 d.2.2.2.2.2.2.2.2.2.2.2.2.2.2.2.2.2.2.2.2.2.2.2.1=some (mb d,())∧dz d.1 d.2.1 d.2.2.1 d.2.2.2.1 d.2.2.2.2.1 d.2.2.2.2.2.1 d.2.2.2.2.2.2.1 d.2.2.2.2.2.2.2.1 d.2.2.2.2.2.2.2.2.1 d.2.2.2.2.2.2.2.2.2.1 d.2.2.2.2.2.2.2.2.2.2.1 d.2.2.2.2.2.2.2.2.2.2.2.1 d.2.2.2.2.2.2.2.2.2.2.2.2.1 d.2.2.2.2.2.2.2.2.2.2.2.2.2.1 d.2.2.2.2.2.2.2.2.2.2.2.2.2.2.1 d.2.2.2.2.2.2.2.2.2.2.2.2.2.2.2.1 d.2.2.2.2.2.2.2.2.2.2.2.2.2.2.2.2.1 d.2.2.2.2.2.2.2.2.2.2.2.2.2.2.2.2.2.1 d.2.2.2.2.2.2.2.2.2.2.2.2.2.2.2.2.2.2.1 d.2.2.2.2.2.2.2.2.2.2.2.2.2.2.2.2.2.2.2.1 d.2.2.2.2.2.2.2.2.2.2.2.2.2.2.2.2.2.2.2.2.1 d.2.2.2.2.2.2.2.2.2.2.2.2.2.2.2.2.2.2.2.2.2.1 d.2.2.2.2.2.2.2.2.2.2.2.2.2.2.2.2.2.2.2.2.2.2.1 d.2.2.2.2.2.2.2.2.2.2.2.2.2.2.2.2.2.2.2.2.2.2.2.1=some (mb d,())∧(mb d=true↔xR d):=by
 obtain ⟨b,k1,k2⟩:=Jq d.1 d.2.1 d.2.2.1 d.2.2.2.1 d.2.2.2.2.1 d.2.2.2.2.2.1 d.2.2.2.2.2.2.1 d.2.2.2.2.2.2.2.1 d.2.2.2.2.2.2.2.2.1 d.2.2.2.2.2.2.2.2.2.1 d.2.2.2.2.2.2.2.2.2.2.1 d.2.2.2.2.2.2.2.2.2.2.2.1 d.2.2.2.2.2.2.2.2.2.2.2.2.1 d.2.2.2.2.2.2.2.2.2.2.2.2.2.1 d.2.2.2.2.2.2.2.2.2.2.2.2.2.2.1 d.2.2.2.2.2.2.2.2.2.2.2.2.2.2.2.1 d.2.2.2.2.2.2.2.2.2.2.2.2.2.2.2.2.1 d.2.2.2.2.2.2.2.2.2.2.2.2.2.2.2.2.2.1 d.2.2.2.2.2.2.2.2.2.2.2.2.2.2.2.2.2.2.1 d.2.2.2.2.2.2.2.2.2.2.2.2.2.2.2.2.2.2.2.1 d.2.2.2.2.2.2.2.2.2.2.2.2.2.2.2.2.2.2.2.2.1 d.2.2.2.2.2.2.2.2.2.2.2.2.2.2.2.2.2.2.2.2.2.1 d.2.2.2.2.2.2.2.2.2.2.2.2.2.2.2.2.2.2.2.2.2.2.1 d.2.2.2.2.2.2.2.2.2.2.2.2.2.2.2.2.2.2.2.2.2.2.2.1 h;have hb:mb d=b:=by unfold mb;rw [k1]
 rw [hb];refine ⟨k1,k2,?_⟩;have h0:=h;unfold mT at h0;have n1:gk d.2.2.1 d.2.2.2.1 d.2.2.2.2.1 d.2.2.2.2.2.1 d.2.2.2.2.2.2.1 d.2.2.2.2.2.2.2.1 d.2.2.2.2.2.2.2.2.1 d.2.2.2.2.2.2.2.2.2.1 d.2.2.2.2.2.2.2.2.2.2.1 d.2.2.2.2.2.2.2.2.2.2.2.1 d.2.2.2.2.2.2.2.2.2.2.2.2.1 d.2.2.2.2.2.2.2.2.2.2.2.2.2.1 d.2.2.2.2.2.2.2.2.2.2.2.2.2.2.1 d.2.2.2.2.2.2.2.2.2.2.2.2.2.2.2.1 d.2.2.2.2.2.2.2.2.2.2.2.2.2.2.2.2.1 d.2.2.2.2.2.2.2.2.2.2.2.2.2.2.2.2.2.1=some (Bf (aJ d),()):=(NV (aJ d)).1;have n3:=(NV (aJ d)).2.2;have hw:ma (aJ d)≤1048576:=by
  show (List.length d.2.2.2.2.1+wl jK d.2.2.2.2.1)+(List.length d.2.2.2.2.2.1+wl dD d.2.2.2.2.2.1)+(List.length d.2.2.2.2.2.2.1+wl jK d.2.2.2.2.2.2.1)+(List.length d.2.2.2.2.2.2.2.1+wl Jo d.2.2.2.2.2.2.2.1)+(List.length d.2.2.2.2.2.2.2.2.2.2.2.2.2.2.2.2.2.1+wl jK d.2.2.2.2.2.2.2.2.2.2.2.2.2.2.2.2.2.1)≤1048576;omega
 have m1:fe d.2.2.1 d.2.2.2.1 d.2.2.2.2.1 d.2.2.2.2.2.1 d.2.2.2.2.2.2.1 d.2.2.2.2.2.2.2.1 d.2.2.2.2.2.2.2.2.1 d.2.2.2.2.2.2.2.2.2.1 d.2.2.2.2.2.2.2.2.2.2.1 d.2.2.2.2.2.2.2.2.2.2.2.1 d.2.2.2.2.2.2.2.2.2.2.2.2.1 d.2.2.2.2.2.2.2.2.2.2.2.2.2.1 d.2.2.2.2.2.2.2.2.2.2.2.2.2.2.1 d.2.2.2.2.2.2.2.2.2.2.2.2.2.2.2.1 d.2.2.2.2.2.2.2.2.2.2.2.2.2.2.2.2.1 d.2.2.2.2.2.2.2.2.2.2.2.2.2.2.2.2.2.1=some (uC (aJ d),()):=(tH (aJ d) hw).1;have m3:=(tH (aJ d) hw).2.2;obtain ⟨r1,_⟩:=uS d.2.2.2.2.2.2.2.2.2.2.2.2.2.2.2.2.2.2.2.2.1 d.2.2.2.2.2.2.2.2.2.2.2.2.2.2.2.2.2.2.2.2.2.1;obtain ⟨q1,_,q3⟩:=uB d.2.2.2.2.2.2.2.2.2.2.2.2.2.2.2.2.2.2.2.2.1 d.2.2.2.2.2.2.2.2.2.2.2.2.2.2.2.2.2.2.2.2.2.1 (by omega);have c1:=zp d.2.2.2.2.2.2.2.2.2.2.2.2.2.2.2.2.2.2.2.2.2.1 d.1 (by omega);obtain ⟨e,g1,g2⟩:=WI d h;have hnr:(decide (d.2.2.2.2.2.2.2.2.2.2.2.2.2.2.2.2.2.2.2.2.1=0)&&decide (((List.length d.2.2.2.2.2.2.2.2.2.2.2.2.2.2.2.2.2.2.2.2.2.1:Nat):Int)=0))=true↔(d.2.2.2.2.2.2.2.2.2.2.2.2.2.2.2.2.2.2.2.2.1=0∧d.2.2.2.2.2.2.2.2.2.2.2.2.2.2.2.2.2.2.2.2.2.1=[]):=by rw [qM,YM]
 unfold fo at k1;simp only [mv,n1,m1,r1,q1,c1,g1,Option.bind_some] at k1
 cases e1:(decide (1≤d.1)&&decide (d.1≤5))
 ·rw [e1] at k1;have:=some_inj k1;subst this;exact ⟨fun h=>(by cases h),fun h=>by rw [qM.2 h.id] at e1;cases e1⟩
 have a1:=lB e1
 cases e2:(decide (0≤d.2.2.2.2.2.2.2.2.2.2.2.2.2.2.2.2.2.2.1)&&decide (d.2.2.2.2.2.2.2.2.2.2.2.2.2.2.2.2.2.2.1≤9))
 ·rw [e1,e2] at k1;have:=some_inj k1;subst this;exact ⟨fun h=>(by cases h),fun h=>by rw [qM.2 h.xS] at e2;cases e2⟩
 have a2:=lB e2;rw [e1,e2] at k1;simp only [Bool.not_true,cond_false] at k1
 cases e3:d.2.1
 ·-- it atc
  rw [e3] at k1;have tail:(uC (aJ d)=true→d.2.2.1=d.1→False)∨True:=.inr trivial;have rest:(KW (aJ d)∨(qW (aJ d)∧d.2.2.1=d.1))→(0≤d.2.2.2.1∧d.2.2.2.1≤9)→(bif !decide (d.2.2.2.2.2.2.2.2.2.2.2.2.2.2.2.2.2.2.2.1=d.2.2.2.1) then some (false,()) else bif decide (d.2.2.2.2.2.2.2.2.2.2.2.2.2.2.2.2.2.2.1<d.2.2.2.2.2.2.2.2.2.2.2.2.2.2.2.2.2.2.2.1) then some (false,()) else
    bif (decide (d.2.2.2.2.2.2.2.2.2.2.2.2.2.2.2.2.2.2.2.2.1=0)&&decide (((List.length d.2.2.2.2.2.2.2.2.2.2.2.2.2.2.2.2.2.2.2.2.2.1:Nat):Int)=0)) then some (decide (((List.length d.2.2.2.2.2.2.2.2.2.2.2.2.2.2.2.2.2.2.2.2.2.2.1:Nat):Int)=0),()) else
    bif !B6 d.2.2.2.2.2.2.2.2.2.2.2.2.2.2.2.2.2.2.2.2.1 d.2.2.2.2.2.2.2.2.2.2.2.2.2.2.2.2.2.2.2.2.2.1 then some (false,()) else bif !decide ((d.1,())∈d.2.2.2.2.2.2.2.2.2.2.2.2.2.2.2.2.2.2.2.2.2.1) then some (false,()) else
    bif !(decide (IntKind.i64.wrap (d.2.2.2.2.2.2.2.2.2.2.2.2.2.2.2.2.2.2.2.1+(1:Int))≤d.2.2.2.2.2.2.2.2.2.2.2.2.2.2.2.2.2.2.2.2.1)&&decide (d.2.2.2.2.2.2.2.2.2.2.2.2.2.2.2.2.2.2.2.2.1≤d.2.2.2.2.2.2.2.2.2.2.2.2.2.2.2.2.2.2.1)) then some (false,()) else bW (some e) (fun _=>some (true,())) (fun y=>some (y.1,())))=some (b,())→(b=true↔xR d):=by
   intro hm hr k
   by_cases o1:d.2.2.2.2.2.2.2.2.2.2.2.2.2.2.2.2.2.2.2.1=d.2.2.2.1
   case neg=>
    rw [aq o1] at k;have:=some_inj k;subst this;exact ⟨fun h=>(by cases h),fun h=>absurd h.old.1 o1⟩
   by_cases o2:d.2.2.2.2.2.2.2.2.2.2.2.2.2.2.2.2.2.2.1<d.2.2.2.2.2.2.2.2.2.2.2.2.2.2.2.2.2.2.2.1
   ·rw [ak o1,ak o2] at k;have:=some_inj k;subst this;exact ⟨fun h=>(by cases h),fun h=>by have:=h.old.2;omega⟩
   rw [ak o1,aq o2,dH (by omega) (by omega)] at k;have mk:((d.2.2.2.2.2.2.2.2.2.2.2.2.2.2.2.2.2.2.2.2.1=0∧d.2.2.2.2.2.2.2.2.2.2.2.2.2.2.2.2.2.2.2.2.2.1=[]∧d.2.2.2.2.2.2.2.2.2.2.2.2.2.2.2.2.2.2.2.2.2.2.1=[])∨(oR d.2.2.2.2.2.2.2.2.2.2.2.2.2.2.2.2.2.2.2.2.1 d.2.2.2.2.2.2.2.2.2.2.2.2.2.2.2.2.2.2.2.2.2.1∧(d.1,())∈d.2.2.2.2.2.2.2.2.2.2.2.2.2.2.2.2.2.2.2.2.2.1∧(d.2.2.2.2.2.2.2.2.2.2.2.2.2.2.2.2.2.2.2.1+1≤d.2.2.2.2.2.2.2.2.2.2.2.2.2.2.2.2.2.2.2.2.1∧d.2.2.2.2.2.2.2.2.2.2.2.2.2.2.2.2.2.2.2.2.1≤d.2.2.2.2.2.2.2.2.2.2.2.2.2.2.2.2.2.2.1)∧∀b∈d.2.2.2.2.2.2.2.2.2.2.2.2.2.2.2.2.2.2.2.2.2.2.1,D2 b∧b.2.1=d.2.2.2.2.2.2.2.2.2.2.2.2.2.2.2.2.2.2.2.2.1))→xR d:=fun hj=>
    ⟨a1,a2,fun hd=>(by rw [e3] at hd;cases hd),hm,⟨o1,by omega⟩,hj⟩
   cases e4:(decide (d.2.2.2.2.2.2.2.2.2.2.2.2.2.2.2.2.2.2.2.2.1=0)&&decide (((List.length d.2.2.2.2.2.2.2.2.2.2.2.2.2.2.2.2.2.2.2.2.2.1:Nat):Int)=0))
   ·have Xp:¬(d.2.2.2.2.2.2.2.2.2.2.2.2.2.2.2.2.2.2.2.2.1=0∧d.2.2.2.2.2.2.2.2.2.2.2.2.2.2.2.2.2.2.2.2.2.1=[]∧d.2.2.2.2.2.2.2.2.2.2.2.2.2.2.2.2.2.2.2.2.2.2.1=[]):=fun hz=>by rw [hnr.2 ⟨hz.1,hz.2.1⟩] at e4;cases e4
    rw [e4] at k
    cases e5:B6 d.2.2.2.2.2.2.2.2.2.2.2.2.2.2.2.2.2.2.2.2.1 d.2.2.2.2.2.2.2.2.2.2.2.2.2.2.2.2.2.2.2.2.2.1
    ·rw [e5] at k;have:=some_inj k;subst this;exact ⟨fun h=>(by cases h),fun h=>by
      rcases h.nH with q | q
      ·exact absurd q Xp
      ·rw [q3.2 q.1] at e5;cases e5⟩
    by_cases e6:(d.1,())∈d.2.2.2.2.2.2.2.2.2.2.2.2.2.2.2.2.2.2.2.2.2.1
    case neg=>
     rw [e5,aq e6] at k;have:=some_inj k;subst this;exact ⟨fun h=>(by cases h),fun h=>by
      rcases h.nH with q | q
      ·exact absurd q Xp
      ·exact absurd q.2.1 e6⟩
    cases e7:(decide (d.2.2.2.2.2.2.2.2.2.2.2.2.2.2.2.2.2.2.2.1+1≤d.2.2.2.2.2.2.2.2.2.2.2.2.2.2.2.2.2.2.2.2.1)&&decide (d.2.2.2.2.2.2.2.2.2.2.2.2.2.2.2.2.2.2.2.2.1≤d.2.2.2.2.2.2.2.2.2.2.2.2.2.2.2.2.2.2.1))
    ·rw [e5,ak e6,e7] at k;have:=some_inj k;subst this;exact ⟨fun h=>(by cases h),fun h=>by
      rcases h.nH with q | q
      ·exact absurd q Xp
      ·rw [qM.2 q.2.2.1] at e7;cases e7⟩
    rw [e5,ak e6,e7] at k;rcases g2 with ⟨rfl,g⟩ | ⟨rfl,g⟩
    ·have:=some_inj k;subst this;exact ⟨fun _=>mk (.inr ⟨q3.1 e5,e6,lB e7,g⟩),fun _=>rfl⟩
    ·have:=some_inj k;subst this;exact ⟨fun h=>(by cases h),fun h=>by
      rcases h.nH with q | q
      ·exact absurd q Xp
      ·exact absurd q.2.2.2 g⟩
   ·have hn:=hnr.1 e4;rw [e4] at k;have:=some_inj k;subst this;rw [decide_eq_true_eq,YM];refine ⟨fun h=>mk (.inl ⟨hn.1,hn.2,h⟩),fun h => ?_⟩;rcases h.nH with q | q
    ·exact q.2.2
    ·have:=q.1.1.1;omega
  cases e4:Bf (aJ d)
  ·rw [e4] at k1;simp only [Bool.not_false,cond_true] at k1;have nn:¬KW (aJ d):=fun hz=>by rw [n3.2 hz] at e4;cases e4
   cases e5:uC (aJ d)
   ·rw [e5] at k1;have:=some_inj k1;subst this;exact ⟨fun h=>(by cases h),fun h=>by
     rcases h.tI with q | q
     ·exact absurd q nn
     ·rw [m3.2 q.1] at e5;cases e5⟩
   by_cases e6:d.2.2.1=d.1
   case neg=>
    rw [e5,aq e6] at k1;have:=some_inj k1;subst this;exact ⟨fun h=>(by cases h),fun h=>by
     rcases h.tI with q | q
     ·exact absurd q nn
     ·exact absurd q.2 e6⟩
   rw [e5,ak e6] at k1;have hq:=m3.1 e5;have h3:1≤d.2.2.2.1∧d.2.2.2.1≤9:=hq.ring.1;exact rest (.inr ⟨hq,e6⟩) ⟨by omega,h3.2⟩ k1
  ·rw [e4] at k1;have hz:=n3.1 e4;have h3:d.2.2.2.1=0:=hz.2.1;exact rest (.inl hz) ⟨by omega,by omega⟩ k1
 ·-- it is dead
  rw [e3] at k1;simp only [cond_true] at k1
  cases e4:Bf (aJ d)
  ·rw [e4] at k1;have:=some_inj k1;subst this;exact ⟨fun h=>(by cases h),fun h=>by rw [n3.2 (h.dead e3).1] at e4;cases e4⟩
  have hz:=n3.1 e4
  by_cases e5:d.2.2.2.2.2.2.2.2.2.2.2.2.2.2.2.2.2.2.2.1=0
  case neg=>
   rw [e4,aq e5] at k1;have:=some_inj k1;subst this;exact ⟨fun h=>(by cases h),fun h=>absurd (h.dead e3).2.1 e5⟩
  cases e6:(decide (d.2.2.2.2.2.2.2.2.2.2.2.2.2.2.2.2.2.2.2.2.1=0)&&decide (((List.length d.2.2.2.2.2.2.2.2.2.2.2.2.2.2.2.2.2.2.2.2.2.1:Nat):Int)=0))
  ·rw [e4,ak e5,e6] at k1;have:=some_inj k1;subst this;exact ⟨fun h=>(by cases h),fun h=>by rw [hnr.2 ⟨(h.dead e3).2.2.1,(h.dead e3).2.2.2.1⟩] at e6;cases e6⟩
  have hn:=hnr.1 e6;rw [e4,ak e5,e6] at k1;have:=some_inj k1;subst this;rw [decide_eq_true_eq,YM];have h3:d.2.2.2.1=0:=hz.2.1;exact ⟨fun h=>⟨a1,a2,fun _=>⟨hz,e5,hn.1,hn.2,h⟩,.inl hz,⟨by omega,by omega⟩,.inl ⟨hn.1,hn.2,h⟩⟩,fun h=>(h.dead e3).2.2.2.2⟩
end Go.TM
set_option linter.unusedSimpArgs false
set_option linter.unusedVariables false
namespace Go.TM
open Go
def nc:aW→dY→aW
 | [],m=>[m]
 |r::xs,m=>if r.1<m.1 then r::nc xs m else if r.1=m.1 then r::xs else m::r::xs
def Tt (xs:aW):Prop:=xs.Pairwise fun a b=>a.1<b.1
def oz (xs:aW) (m:dY):Nat:=(xs.takeWhile fun r=>decide (r.1<m.1)).length
theorem YN (xs:aW) (m:dY):oz xs m≤xs.length:=(List.takeWhile_sublist _).length_le
theorem Fe (r:dY) (xs:aW) (m:dY):oz (r::xs) m=if r.1<m.1 then oz xs m+1 else 0:=by
 unfold oz;rw [List.takeWhile_cons]
 by_cases h:r.1<m.1
 ·simp [h]
 ·simp [h]
theorem NW (m:dY):(xs:aW)→nc xs m=if h:oz xs m<xs.length then (if xs[oz xs m].1=m.1 then xs else xs.take (oz xs m)++([m]++xs.drop (oz xs m))) else xs.take (oz xs m)++([m]++xs.drop (oz xs m))
 | []=>rfl
 |r::xs=>by
  have ih:=NW m xs;unfold nc
  by_cases h:r.1<m.1
  ·rw [if_pos h,ih];have hp:oz (r::xs) m=oz xs m+1:=by rw [Fe,if_pos h]
   by_cases h2:oz xs m<xs.length
   ·have h3:oz (r::xs) m<(r::xs).length:=by rw [hp,List.length_cons];omega
    rw [dif_pos h2,dif_pos h3];have e:(r::xs)[oz (r::xs) m]=xs[oz xs m]:=by simp [hp]
    rw [e]
    by_cases h4:xs[oz xs m].1=m.1
    ·rw [if_pos h4,if_pos h4]
    ·rw [if_neg h4,if_neg h4,hp];rfl
   ·have h3:¬oz (r::xs) m<(r::xs).length:=by rw [hp,List.length_cons];omega
    rw [dif_neg h2,dif_neg h3,hp];rfl
  ·rw [if_neg h];have hp:oz (r::xs) m=0:=by rw [Fe,if_neg h]
   have h3:oz (r::xs) m<(r::xs).length:=by rw [hp,List.length_cons];omega
   rw [dif_pos h3];have e:(r::xs)[oz (r::xs) m]=r:=by simp [hp]
   rw [e,hp];rfl
theorem WJ {xs:aW} (h:eV xs xs.length):Tt xs:=by
 have key:∀(d i:Nat) (hi:i+d+1<xs.length),xs[i].1<xs[i+d+1].1:=by
  intro d
  induction d with
  |zero=>intro i hi;exact (h (i+1) hi hi).2 (by omega)
  |succ d ih=>
   intro i hi;have h1:=ih i (by omega);have h2:=(h (i+(d+1)+1) hi hi).2 (by omega);have e:i+(d+1)+1-1=i+d+1:=by omega
   simp only [e] at h2;omega
 unfold Tt;rw [List.pairwise_iff_getElem];intro i j hi hj X2;have:=key (j-i-1) i (by omega);simpa [show i+(j-i-1)+1=j by omega] using this
theorem WK {xs:aW} (h:Tt xs) (hi:∀r∈xs,pH r):eV xs xs.length:=by
 intro k hk _;refine ⟨hi _ (List.getElem_mem hk),fun h0 => ?_⟩;unfold Tt at h;rw [List.pairwise_iff_getElem] at h;exact h (k-1) k (by omega) hk (by omega)
theorem rT {xs:aW} (h:eV xs xs.length):∀r∈xs,pH r:=by
 intro r hr;obtain ⟨k,hk,rfl⟩:=List.mem_iff_getElem.1 hr;exact (h k hk hk).1
theorem Iv {r m:dY}:{xs:aW}→r∈nc xs m→r=m∨r∈xs
 | [],h=>by
  unfold nc at h;exact .inl (List.mem_singleton.1 h)
 |x::xs,h=>by
  unfold nc at h
  split at h
  ·rcases List.mem_cons.1 h with rfl | h
   ·exact .inr List.mem_cons_self
   ·exact (Iv h).imp id (List.mem_cons_of_mem _)
  ·split at h
   ·exact .inr h
   ·rcases List.mem_cons.1 h with rfl | h
    ·exact .inl rfl
    ·exact .inr h
theorem NX {m:dY}:{xs:aW}→Tt xs→Tt (nc xs m)
 | [],_=>by unfold nc Tt;simp
 |x::xs,h=>by
  unfold Tt at h;rw [List.pairwise_cons] at h;unfold nc
  split
  ·rename_i dS;unfold Tt;rw [List.pairwise_cons];refine ⟨fun y hy => ?_,NX h.2⟩;rcases Iv hy with rfl | hy
   ·exact dS
   ·exact h.1 y hy
  ·split
   ·unfold Tt;rw [List.pairwise_cons];exact h
   ·unfold Tt;rw [List.pairwise_cons,List.pairwise_cons];refine ⟨fun y hy => ?_,h⟩;rcases List.mem_cons.1 hy with rfl | hy
    ·omega
    ·have:=h.1 y hy;omega
theorem zv {xs:aW} {m:dY} (h:eV xs xs.length) (hm:pH m):eV (nc xs m) (nc xs m).length:=
 WK (NX (WJ h)) fun r hr=>(Iv hr).elim (fun e=>e▸hm) (rT h r)
def pI (xs:aW) (m:dY):aW:=xs.filter fun r=>decide (r.1<m.1)
def wc (xs:aW) (m:dY):aW:=xs.filter fun r=>decide (m.1<r.1)
def D3 (xs:aW) (s:Int):Bool:=xs.any fun r=>decide (r.1=s)
theorem FZ (m:dY):(xs:aW)→Tt xs→nc xs m=bif D3 xs m.1 then xs else pI xs m++[m]++wc xs m
 | [],_=>rfl
 |r::xs,h=>by
  unfold Tt at h;rw [List.pairwise_cons] at h;have ih:=FZ m xs h.2;unfold nc
  by_cases h1:r.1<m.1
  ·rw [if_pos h1,ih];have e1:D3 (r::xs) m.1=D3 xs m.1:=by unfold D3;rw [List.any_cons,aq (show ¬r.1=m.1 by omega)];rfl
   have e2:pI (r::xs) m=r::pI xs m:=by unfold pI;rw [List.filter_cons,if_pos (ak h1)]
   have e3:wc (r::xs) m=wc xs m:=by unfold wc;rw [List.filter_cons,if_neg (by rw [decide_eq_true_eq];omega)]
   rw [e1,e2,e3]
   cases D3 xs m.1<;>rfl
  ·rw [if_neg h1]
   by_cases h2:r.1=m.1
   ·have e1:D3 (r::xs) m.1=true:=by unfold D3;rw [List.any_cons,ak h2];rfl
    rw [if_pos h2,e1];rfl
   ·rw [if_neg h2];have ri:∀y∈r::xs,m.1<y.1:=by
     intro y hy;rcases List.mem_cons.1 hy with rfl | hy
     ·omega
     ·have:=h.1 y hy;omega
    have e1:D3 (r::xs) m.1=false:=by
     unfold D3;rw [List.any_eq_false];intro y hy;have:=ri y hy;rw [decide_eq_true_eq];omega
    have e2:pI (r::xs) m=[]:=by
     unfold pI;rw [List.filter_eq_nil_iff];intro y hy;have:=ri y hy;rw [decide_eq_true_eq];omega
    have e3:wc (r::xs) m=r::xs:=by
     unfold wc;rw [List.filter_eq_self];intro y hy;exact ak (ri y hy)
    rw [e1,e2,e3];rfl
theorem zw (xs:aW) (m:dY) (h:xs.length≤1048576) (hi:mS xs=true) (hm:zS m=true):iY xs m.1 m.2.1 m.2.2.1 m.2.2.2.1=some (nc xs m,()):=by
 obtain ⟨k1,_,k3⟩:=oS xs h;obtain ⟨q1,_,_⟩:=zt m;have hs:=WJ (k3.1 hi);have hlen:∀k,(pI (xs.take k) m).length≤k:=fun k=>Nat.le_trans (List.length_filter_le _ _) (by rw [List.length_take];omega)
 have Nq:∀k,(wc (xs.take k) m).length≤k:=fun k=>Nat.le_trans (List.length_filter_le _ _) (by rw [List.length_take];omega)
 have l1:=sy (round:=jW) (n:=xs.length) (fun k=>(xs,m.1,m.2.1,m.2.2.1,m.2.2.2.1,xs,pI (xs.take k) m,((k:Nat):Int),())) (fun k=>some (bif D3 (xs.drop k) m.1 then .inr (xs,()) else .inl (xs,m.1,m.2.1,m.2.2.1,m.2.2.2.1,pI xs m,())))
  ⟨.inl (xs,m.1,m.2.1,m.2.2.1,m.2.2.2.1,pI xs m,()),by simp only [jW,bC,sW,aA,aM,cond_false,List.take_length],by rw [List.drop_length];rfl⟩ (fun k hk=>by
   have e:D3 (xs.drop k) m.1=(decide (xs[k].1=m.1)||D3 (xs.drop (k+1)) m.1):=by unfold D3;rw [List.drop_eq_getElem_cons hk,List.any_cons]
   have e2:pI (xs.take (k+1)) m=pI (xs.take k) m++(if decide (xs[k].1<m.1)=true then [xs[k]] else []):=by
    unfold pI;rw [List.take_succ_eq_append_getElem hk,List.filter_append,List.filter_cons]
    split<;>rfl
   have hb:Nat.ble (((pI (xs.take k) m).length+1)*40) lim=true:=aT (by have:=hlen k;unfold lim;omega);simp only [jW,bC,sW,aA,aD hk,ax,cond_true,aF,List.getElem?_eq_getElem hk,Option.bind_some,aN (show k<4611686018427387904 by omega),hb,e,e2]
   by_cases h1:xs[k].1=m.1
   ·rw [ak h1];exact .inl ⟨_,rfl,rfl⟩
   ·rw [aq h1];refine .inr ⟨?_,rfl⟩
    by_cases h2:xs[k].1<m.1
    ·rw [ak h2];rfl
    ·rw [aq h2,if_neg (by decide),List.append_nil];rfl) 0 (Nat.zero_le _)
 have l1:aI jW (xs,m.1,m.2.1,m.2.2.1,m.2.2.2.1,xs,[],(0:Int),())=_:=l1;rw [List.drop_zero] at l1;have l2:=ca (round:=iK) (e:=.inl (pI xs m++[m]++wc xs m,())) xs.length (fun k=>(xs,m.1,m.2.1,m.2.2.1,m.2.2.2.1,pI xs m++[m]++wc (xs.take k) m,((k:Nat):Int),())) (by
  simp only [iK,aP,sX,aA,aM,cond_false,List.take_length]) (fun k hk=>by
   have e2:wc (xs.take (k+1)) m=wc (xs.take k) m++(if decide (m.1<xs[k].1)=true then [xs[k]] else []):=by
    unfold wc;rw [List.take_succ_eq_append_getElem hk,List.filter_append,List.filter_cons]
    split<;>rfl
   have hb:Nat.ble (((pI xs m++[m]++wc (xs.take k) m).length+1)*40) lim=true:=aT (by
    have h1:=hlen xs.length;rw [List.take_length] at h1;have h2:=Nq k;simp only [List.length_append,List.length_cons,List.length_nil];unfold lim;omega)
   simp only [iK,aP,sX,aA,aD hk,ax,cond_true,aF,List.getElem?_eq_getElem hk,Option.bind_some,aN (show k<4611686018427387904 by omega),hb,e2]
   by_cases h2:m.1<xs[k].1
   ·rw [ak h2,if_pos rfl,←List.append_assoc];rfl
   ·rw [aq h2,if_neg (by decide),List.append_nil];rfl)
 have l2:aI iK (xs,m.1,m.2.1,m.2.2.1,m.2.2.2.1,pI xs m++[m]++wc (xs.take 0) m,(0:Int),())=_:=l2;rw [show wc (xs.take 0) m=[] from rfl,List.append_nil] at l2;have Wn:Nat.ble ((0+xs.length)*40) lim=true:=aT (by unfold lim;omega);have Ms:Nat.ble (((pI xs m).length+1)*40) lim=true:=aT (by
  have h1:=hlen xs.length;rw [List.take_length] at h1;unfold lim;omega)
 rw [FZ m xs hs];unfold iY;delta aA;simp only [k1,q1,hi,hm,Wn,cond_true,Bool.not_true,cond_false,Option.bind_some,List.nil_append,l1]
 cases D3 xs m.1
 ·have l3:aI iK (xs,m.1,m.2.1,m.2.2.1,m.2.2.2.1,pI xs m++[(m.1,m.2.1,m.2.2.1,m.2.2.2.1,())],(0:Int),())=_:=l2;simp only [cond_false,bW,Option.bind_some,Ms,cond_true,l3]
 ·rfl
theorem zx (xs:aW) (m:dY) (h:xs.length≤1048576):nZ xs m.1 m.2.1 m.2.2.1 m.2.2.2.1=some (nc xs m,()):=by
 have l1:=sy (round:=kb) (n:=xs.length) (fun k=>(xs,m.1,m.2.1,m.2.2.1,m.2.2.2.1,((k:Nat):Int),())) (fun k=>some (.inl (xs,m.1,m.2.1,m.2.2.1,m.2.2.2.1,((k+oz (xs.drop k) m:Nat):Int),())))
  ⟨.inl (xs,m.1,m.2.1,m.2.2.1,m.2.2.2.1,((xs.length:Nat):Int),()),by simp only [kb,aP,tD,aM,cond_false],by rw [List.drop_length];rfl⟩ (fun k hk=>by
   have e:oz (xs.drop k) m=if xs[k].1<m.1 then oz (xs.drop (k+1)) m+1 else 0:=by rw [List.drop_eq_getElem_cons hk,Fe]
   simp only [kb,aP,tD,aD hk,ax,cond_true,aF,fW hk,List.getElem?_eq_getElem hk,Option.bind_some,aN (show k<4611686018427387904 by omega),e]
   by_cases h1:xs[k].1<m.1
   ·rw [ak h1,if_pos h1];exact .inr ⟨rfl,by rw [show k+(oz (xs.drop (k+1)) m+1)=k+1+oz (xs.drop (k+1)) m by omega]⟩
   ·rw [aq h1,if_neg h1];exact .inl ⟨_,rfl,rfl⟩) 0 (Nat.zero_le _)
 have l1:aI kb (xs,m.1,m.2.1,m.2.2.1,m.2.2.2.1,(0:Int),())=_:=l1;rw [List.drop_zero,Nat.zero_add] at l1;have hp:=YN xs m;have arw:NR xs ((oz xs m:Nat):Int) [(m.1,m.2.1,m.2.2.1,m.2.2.2.1,())]=some (xs.take (oz xs m)++([m]++xs.drop (oz xs m)),()):=by
  unfold NR;rw [ax,ak (show ((oz xs m:Nat):Int)≤((xs.length:Nat):Int) by omega),aT (show (xs.length+1)*40≤lim by unfold lim;omega)];rfl
 rw [NW];unfold nZ;delta aA;simp only [l1,bW,arw,Option.bind_some]
 by_cases h1:oz xs m<xs.length
 ·simp only [dif_pos h1,aD h1,ax,aF,fW h1,cond_true,List.getElem?_eq_getElem h1,Option.bind_some]
  by_cases h2:xs[oz xs m].1=m.1
  ·rw [ak h2,if_pos h2];rfl
  ·rw [aq h2,if_neg h2];rfl
 ·rw [dif_neg h1,aq (show ¬((oz xs m:Nat):Int)<((xs.length:Nat):Int) by omega)];rfl
noncomputable def Iw (xs:aW) (m:dY):aW:=bif mS xs&&zS m then nc xs m else xs
theorem L5 (xs:aW) (m:dY) (h:xs.length≤1048576):iY xs m.1 m.2.1 m.2.2.1 m.2.2.2.1=some (Iw xs m,())∧uA xs m.1 m.2.1 m.2.2.1 m.2.2.2.1=some (Iw xs m,()):=by
 obtain ⟨k1,k2,_⟩:=oS xs h;obtain ⟨q1,q2,_⟩:=zt m;have Wn:Nat.ble ((0+xs.length)*40) lim=true:=aT (by unfold lim;omega);unfold Iw
 constructor
 ·cases hi:mS xs
  ·unfold iY;delta aA;simp only [k1,hi,Wn,cond_true,Option.bind_some];rfl
  ·cases hm:zS m
   ·unfold iY;delta aA;simp only [k1,q1,hi,hm,Wn,cond_true,Option.bind_some];rfl
   ·exact zw xs m h hi hm
 ·unfold uA;simp only [k2,q2,Be xs h,Option.bind_some,zx xs m h]
  cases mS xs<;>cases zS m<;>rfl
def KX (m:iA) (xs:aW):iA:=(m.1,m.2.1,m.2.2.1,xs,m.2.2.2.2)
noncomputable def qN (m:iA) (x:dY):iA:=bif uC m then KX m (Iw m.2.2.2.1 x) else m
theorem P0 (m:iA) (x:dY) (h:ma m≤1048576):vH m.1 m.2.1 m.2.2.1 m.2.2.2.1 m.2.2.2.2.1 m.2.2.2.2.2.1 m.2.2.2.2.2.2.1 m.2.2.2.2.2.2.2.1 m.2.2.2.2.2.2.2.2.1 m.2.2.2.2.2.2.2.2.2.1 m.2.2.2.2.2.2.2.2.2.2.1 m.2.2.2.2.2.2.2.2.2.2.2.1 m.2.2.2.2.2.2.2.2.2.2.2.2.1 m.2.2.2.2.2.2.2.2.2.2.2.2.2.1 m.2.2.2.2.2.2.2.2.2.2.2.2.2.2.1 m.2.2.2.2.2.2.2.2.2.2.2.2.2.2.2.1 x.1 x.2.1 x.2.2.1 x.2.2.2.1=some (qN m x)∧vV m.1 m.2.1 m.2.2.1 m.2.2.2.1 m.2.2.2.2.1 m.2.2.2.2.2.1 m.2.2.2.2.2.2.1 m.2.2.2.2.2.2.2.1 m.2.2.2.2.2.2.2.2.1 m.2.2.2.2.2.2.2.2.2.1 m.2.2.2.2.2.2.2.2.2.2.1 m.2.2.2.2.2.2.2.2.2.2.2.1 m.2.2.2.2.2.2.2.2.2.2.2.2.1 m.2.2.2.2.2.2.2.2.2.2.2.2.2.1 m.2.2.2.2.2.2.2.2.2.2.2.2.2.2.1 m.2.2.2.2.2.2.2.2.2.2.2.2.2.2.2.1 x.1 x.2.1 x.2.2.1 x.2.2.2.1=some (qN m x):=by
 obtain ⟨k1,k2,_⟩:=tH m h;obtain ⟨p1,p2⟩:=nG m.1 m.2.1 m.2.2.1 m.2.2.2.1 m.2.2.2.2.1 m.2.2.2.2.2.1 m.2.2.2.2.2.2.1 m.2.2.2.2.2.2.2.1 m.2.2.2.2.2.2.2.2.1 m.2.2.2.2.2.2.2.2.2.1 m.2.2.2.2.2.2.2.2.2.2.1 m.2.2.2.2.2.2.2.2.2.2.2.1 m.2.2.2.2.2.2.2.2.2.2.2.2.1 m.2.2.2.2.2.2.2.2.2.2.2.2.2.1 m.2.2.2.2.2.2.2.2.2.2.2.2.2.2.1 m.2.2.2.2.2.2.2.2.2.2.2.2.2.2.2.1 h;have hl:m.2.2.2.1.length≤1048576:=by unfold ma at h;omega
 obtain ⟨q1,q2⟩:=L5 m.2.2.2.1 x hl;unfold qN
 constructor
 ·unfold vH;simp only [p1,k1,q1,Option.bind_some]
  cases uC m<;>rfl
 ·unfold vV;simp only [p2,k2,q2,Option.bind_some]
  cases uC m<;>rfl
theorem Tu {xs:aW} {x:dY} (hx:eV xs xs.length):(Iw xs x).length+wl dD (Iw xs x)≤3660:=by
 have h1:=dv xs hx;unfold Iw
 cases hc:mS xs&&zS x
 ·show xs.length+wl dD xs≤3660;omega
 ·have hm:pH x:=(zt x).2.2.1 (by rw [Bool.and_eq_true] at hc;exact hc.2);have:=dv _ (zv hx hm);show (nc xs x).length+wl dD (nc xs x)≤3660;omega
theorem P1 (m:iA) (x:dY) (h:ma m≤1048576):ma (qN m x)≤1048576:=by
 unfold qN
 cases hb:uC m
 ·exact h
 ·have hq:=(tH m h).2.2.1 hb;have h1:=hq.small;have h2:=Tu (x:=x) hq.items;unfold ma at h1;show (List.length m.2.2.1+wl jK m.2.2.1)+(List.length (Iw m.2.2.2.1 x)+wl dD (Iw m.2.2.2.1 x))+(List.length m.2.2.2.2.1+wl jK m.2.2.2.2.1)+(List.length m.2.2.2.2.2.1+wl Jo m.2.2.2.2.2.1)+(List.length m.2.2.2.2.2.2.2.2.2.2.2.2.2.2.2.1+wl jK m.2.2.2.2.2.2.2.2.2.2.2.2.2.2.2.1)≤1048576;omega
end Go.TM
set_option linter.unusedSimpArgs false
set_option linter.unusedVariables false
namespace Go.TM
open Go
theorem wL {α:Type} (p:α→Bool) (xs:List α) {k:Nat} (hk:k<xs.length):(xs.take (k+1)).filter p=(xs.take k).filter p++(if p xs[k]=true then [xs[k]] else []):=by
 rw [List.take_succ_eq_append_getElem hk,List.filter_append,List.filter_cons]
 split<;>rfl
theorem zy {α:Type} (p:α→Bool) (xs:List α) (k:Nat):((xs.take k).filter p).length≤k:=Nat.le_trans (List.length_filter_le _ _) (by rw [List.length_take];omega)
theorem zz:(l:aW)→{out:aW}→eV out out.length→(∀r∈l,pH r)→eV (l.foldl nc out) (l.foldl nc out).length
 | [],_,h,_=>h
 |x::l,_,h,hl=>zz l (zv h (hl x List.mem_cons_self)) (fun r hr=>hl r (List.mem_cons_of_mem _ hr))
theorem rU:eV [] ([]:aW).length:=fun k hk=>by simp at hk
noncomputable def iF (out:aW) (l:aW×Unit):aW:=bif mS l.1 then l.1.foldl nc out else out
noncomputable def xi (lists:List (aW×Unit)):aW:=lists.foldl iF []
theorem P2 {out:aW} {l:aW×Unit} (h:eV out out.length) (hl:l.1.length≤1048576):eV (iF out l) (iF out l).length:=by
 unfold iF
 cases hb:mS l.1
 ·exact h
 ·exact zz l.1 h (rT ((oS l.1 hl).2.2.1 hb))
theorem nI:(lists:List (aW×Unit))→{out:aW}→eV out out.length→(∀l∈lists,l.1.length≤1048576)→eV (lists.foldl iF out) (lists.foldl iF out).length
 | [],_,h,_=>h
 |l::lists,_,h,hl=>nI lists (P2 h (hl l List.mem_cons_self)) (fun x hx=>hl x (List.mem_cons_of_mem _ hx))
theorem xT {xs:aW} (h:eV xs xs.length):xs.length≤1048576:=Nat.le_trans (dv xs h).1 (by decide)
theorem YO {xs:aW} (h:eV xs xs.length):mS xs=true:=(oS xs (xT h)).2.2.2 h
theorem afB {r:dY} (h:pH r):zS r=true:=(zt r).2.2.2 h
theorem P3 (lists:List (aW×Unit)) (h:lists.length≤1048576) (hl:∀l∈lists,l.1.length≤1048576):yQ lists=some (xi lists,()):=by
 have l1:=ca (round:=mB) (e:=.inl (xi lists,())) lists.length (fun k=>(lists,(lists.take k).foldl iF [],((k:Nat):Int),())) (by
  simp only [mB,w8,aM,cond_false,List.take_length];rfl) (fun k hk=>by
  have WL:=nI (lists.take k) (out:=[]) rU (fun l Bn=>hl l (List.mem_of_mem_take Bn));have hlk:=hl _ (List.getElem_mem hk);rw [uR _ _ _ hk];generalize (lists.take k).foldl iF []=out at WL ⊢;obtain ⟨i1,_,i3⟩:=oS lists[k].1 hlk;simp only [mB,w8,aD hk,cond_true]
  cases hb:mS lists[k].1
  ·have l2:aI ib (lists,out,((k:Nat):Int),(0:Int),())=some (.inl (lists,out,((k:Nat):Int),())):=by
    rw [jz]
    by_cases h0:(0:Int)<((List.length lists[k].1:Nat):Int)
    ·simp only [ib,aw,oL,aw,ax,cond_true,aF,List.getElem?_eq_getElem hk,Option.bind_some,ak h0,i1,hb,cond_false]
    ·simp only [ib,aw,oL,aw,ax,cond_true,aF,List.getElem?_eq_getElem hk,Option.bind_some,aq h0,cond_false]
   simp only [l2,bW,Option.bind_some,iF,hb,cond_false,aN (show k<4611686018427387904 by omega)]
  ·have ri:=rT (i3.1 hb);have l2:=ca (round:=ib) (e:=.inl (lists,lists[k].1.foldl nc out,((k:Nat):Int),())) lists[k].1.length (fun j=>(lists,(lists[k].1.take j).foldl nc out,((k:Nat):Int),((j:Nat):Int),())) (by
    simp only [ib,aw,oL,aw,ax,cond_true,aF,List.getElem?_eq_getElem hk,Option.bind_some,aM,cond_false,List.take_length]) (fun j hj=>by
    have Xn:=zz (lists[k].1.take j) WL (fun r hr=>ri r (List.mem_of_mem_take hr));have hp:=zw ((lists[k].1.take j).foldl nc out) lists[k].1[j] (xT Xn) (YO Xn) (afB (ri _ (List.getElem_mem hj)));simp only [ib,aw,oL,aw,ax,cond_true,aF,List.getElem?_eq_getElem hk,List.getElem?_eq_getElem hj,Option.bind_some,aD hj,i1,hb,hp,aN (show j<4611686018427387904 by omega)];rw [uR _ _ _ hj])
   have l2:aI ib (lists,out,((k:Nat):Int),(0:Int),())=_:=l2;simp only [l2,bW,Option.bind_some,iF,hb,cond_true,aN (show k<4611686018427387904 by omega)])
 have l1:aI mB (lists,[],(0:Int),())=_:=l1;unfold yQ;rw [l1];rfl
theorem P4 (lists:List (aW×Unit)) (h:lists.length≤1048576) (hl:∀l∈lists,l.1.length≤1048576):zi lists=some (xi lists,()):=by
 have l1:=ca (round:=mF) (e:=.inl (xi lists,())) lists.length (fun k=>((lists.take k).foldl iF [],lists,((lists.length:Nat):Int),((k:Nat):Int),())) (by
  simp only [mF,aw,xe,aM,cond_false,List.take_length];rfl) (fun k hk=>by
  have WL:=nI (lists.take k) (out:=[]) rU (fun l Bn=>hl l (List.mem_of_mem_take Bn));have hlk:=hl _ (List.getElem_mem hk);rw [uR _ _ _ hk];generalize (lists.take k).foldl iF []=out at WL ⊢;obtain ⟨_,i2,i3⟩:=oS lists[k].1 hlk;simp only [mF,aw,xe,aD hk,cond_true,ax,aF,List.getElem?_eq_getElem hk,Option.bind_some,i2]
  cases hb:mS lists[k].1
  ·simp only [iF,hb,Bool.not_false,cond_true,cond_false,aN (show k<4611686018427387904 by omega)]
  ·have ri:=rT (i3.1 hb);have l2:=ca (round:=mE) (e:=.inl (lists[k].1.foldl nc out,lists,((lists.length:Nat):Int),((k:Nat):Int),())) lists[k].1.length (fun j=>((lists[k].1.take j).foldl nc out,lists,((lists.length:Nat):Int),((k:Nat):Int),lists[k].1,((lists[k].1.length:Nat):Int),((j:Nat):Int),())) (by
    simp only [mE,aP,xd,aw,aM,cond_false,List.take_length]) (fun j hj=>by
    have Xn:=zz (lists[k].1.take j) WL (fun r hr=>ri r (List.mem_of_mem_take hr));have hp:=zx ((lists[k].1.take j).foldl nc out) lists[k].1[j] (xT Xn);simp only [mE,aP,xd,aw,ax,cond_true,aF,List.getElem?_eq_getElem hj,Option.bind_some,aD hj,hp,aN (show j<4611686018427387904 by omega)];rw [uR _ _ _ hj])
   have l2:aI mE (out,lists,((lists.length:Nat):Int),((k:Nat):Int),lists[k].1,((lists[k].1.length:Nat):Int),(0:Int),())=_:=l2;simp only [l2,bW,Option.bind_some,iF,hb,Bool.not_true,cond_true,cond_false,aN (show k<4611686018427387904 by omega)])
 have l1:aI mF ([],lists,((lists.length:Nat):Int),(0:Int),())=_:=l1;unfold zi;rw [l1];rfl
noncomputable def xj (xs:aW):aW:=xs.filter fun r=>decide (r.1≤((dB xs:Nat):Int))
theorem P5 (xs:aW) (h:xs.length≤1048576):yR xs=some (xj xs,()):=by
 obtain ⟨a1,_,_⟩:=zu xs h;have l1:=ca (round:=mC) (e:=.inl (xj xs,())) xs.length (fun k=>(xs,(xs.take k).filter (fun r=>decide (r.1≤((dB xs:Nat):Int))),((dB xs:Nat):Int),((k:Nat):Int),())) (by
  simp only [mC,aw,w9,aA,aM,cond_false,List.take_length];rfl) (fun k hk=>by
  have hb:=zy (fun r:dY=>decide (r.1≤((dB xs:Nat):Int))) xs k;rw [wL _ _ hk];simp only [mC,aw,w9,aA,aD hk,ax,cond_true,aF,List.getElem?_eq_getElem hk,Option.bind_some,aN (show k<4611686018427387904 by omega),aT (show (((xs.take k).filter (fun r=>decide (r.1≤((dB xs:Nat):Int)))).length+1)*40≤lim by unfold lim;omega)]
  by_cases h1:xs[k].1≤((dB xs:Nat):Int)
  ·rw [ak h1];rfl
  ·rw [aq h1,if_neg (by decide),List.append_nil];rfl)
 have l1:aI mC (xs,[],((dB xs:Nat):Int),(0:Int),())=_:=l1;unfold yR;simp only [a1,Option.bind_some,l1,bW]
theorem P6 (xs:aW) (h:xs.length≤1048576):zj xs=some (xj xs,()):=by
 obtain ⟨_,a1,_⟩:=zu xs h;have l1:=ca (round:=mG) (e:=.inl (xj xs,())) xs.length (fun k=>(((dB xs:Nat):Int),(xs.take k).filter (fun r=>decide (r.1≤((dB xs:Nat):Int))),xs,((xs.length:Nat):Int),((k:Nat):Int),())) (by
  simp only [mG,aw,xf,aA,aM,cond_false,List.take_length];rfl) (fun k hk=>by
  have hb:=zy (fun r:dY=>decide (r.1≤((dB xs:Nat):Int))) xs k;rw [wL _ _ hk];simp only [mG,aw,xf,aA,aD hk,ax,cond_true,aF,List.getElem?_eq_getElem hk,Option.bind_some,aN (show k<4611686018427387904 by omega),aT (show (((xs.take k).filter (fun r=>decide (r.1≤((dB xs:Nat):Int)))).length+1)*40≤lim by unfold lim;omega)]
  by_cases h1:xs[k].1≤((dB xs:Nat):Int)
  ·rw [ak h1];rfl
  ·rw [aq h1,if_neg (by decide),List.append_nil];rfl)
 have l1:aI mG (((dB xs:Nat):Int),[],xs,((xs.length:Nat):Int),(0:Int),())=_:=l1;unfold zj;simp only [a1,Option.bind_some,l1,bW]
noncomputable def iw (xs:List ea) (c:Int) (d:Int×Unit):aW×Unit:=((tG (ir xs c d.1)).2.2.2.1,())
noncomputable def tJ (xs:List ea) (c:Int) (ms:eA) (id:Int):aW:=xj (xi ((eU xs c ms id).map (iw xs c)))
noncomputable def tP (xs:List ea) (c:Int) (ms:eA) (id heard:Int):aW:=
 match ir xs c id with
 |none=>[]
 |some gv=>bif decide (gv.2.2.1=0) then [] else (tJ xs c ms id).filter fun r=>decide (heard<r.1)
theorem uD (xs:List ea) (c:Int) (h:jf xs) (d:Int×Unit):(iw xs c d).1.length≤1048576:=by
 have TZ:=h.len;unfold iw
 cases hb:ir xs c d.1 with
 |none=>exact Nat.zero_le _
 |some b=>
  obtain ⟨k,hk,rfl⟩:=List.mem_iff_getElem.1 (Fb hb).1;exact h.at hk
theorem Tv (bG:Int) (bI:eA) (xs:List ea) (id heard:Int) (h0:bI.length≤1048576) (h:jf xs):uM bG bI xs id heard=some (tP xs bG bI id heard,()):=by
 have TZ:=h.len;obtain ⟨t1,t2,t3⟩:=so bG bI xs id h0 h;have hw:(eU xs bG bI id).length≤1048576:=by omega
 have hls:((eU xs bG bI id).map (iw xs bG)).length≤1048576:=by rw [List.length_map];exact hw
 have YP:∀l∈(eU xs bG bI id).map (iw xs bG),l.1.length≤1048576:=fun l hl=>by
  obtain ⟨d,_,rfl⟩:=List.mem_map.1 hl;exact uD xs bG h d
 have hu:(xi ((eU xs bG bI id).map (iw xs bG))).length≤1048576:=xT (nI _ (out:=[]) rU YP);have hwl:(tJ xs bG bI id).length≤1048576:=Nat.le_trans (List.length_filter_le _ _) hu;unfold uM tP;rw [rS _ _ _ _ h]
 cases hm:ir xs bG id with
 |none=>rfl
 |some gv=>
  by_cases ho:gv.2.2.1=0
  ·simp only [tG,Option.bind_some,Bool.not_true,cond_false,Wz ho,cond_true]
  simp only [tG,Option.bind_some,Bool.not_true,cond_false,Tn ho,t1,t2];have l1:=ca (round:=l5) (e:=.inl (heard,[],(eU xs bG bI id).map (iw xs bG),())) (eU xs bG bI id).length (fun k=>(xs,heard,bG,bI,[],((eU xs bG bI id).take k).map (iw xs bG),eU xs bG bI id,((k:Nat):Int),())) (by
   simp only [l5,bC,qw,aM,cond_false,List.take_length]) (fun k hk=>by
   simp only [l5,bC,qw,aD hk,ax,cond_true,aF,fW hk,List.getElem?_eq_getElem hk,Option.bind_some,rS _ _ _ _ h,List.length_map,List.length_take,Nat.min_eq_left (Nat.le_of_lt hk),aT (show (k+1)*24≤lim by unfold lim;omega),aN (show k<4611686018427387904 by omega)];rw [List.take_succ_eq_append_getElem hk,List.map_append];rfl)
  have l1:aI l5 (xs,heard,bG,bI,[],[],eU xs bG bI id,(0:Int),())=_:=l1;have l2:=ca (round:=nV) (e:=.inl ((tJ xs bG bI id).filter (fun r=>decide (heard<r.1)),())) (tJ xs bG bI id).length (fun k=>(heard,((tJ xs bG bI id).take k).filter (fun r=>decide (heard<r.1)),tJ xs bG bI id,((k:Nat):Int),())) (by
   simp only [nV,aw,yU,aA,aM,cond_false,List.take_length]) (fun k hk=>by
   have hb:=zy (fun r:dY=>decide (heard<r.1)) (tJ xs bG bI id) k;rw [wL _ _ hk];simp only [nV,aw,yU,aA,aD hk,ax,cond_true,aF,fW hk,List.getElem?_eq_getElem hk,Option.bind_some,aN (show k<4611686018427387904 by omega),aT (show ((((tJ xs bG bI id).take k).filter (fun r=>decide (heard<r.1))).length+1)*40≤lim by unfold lim;omega)]
   by_cases h1:heard<(tJ xs bG bI id)[k].1
   ·rw [ak h1];rfl
   ·rw [aq h1,if_neg (by decide),List.append_nil];rfl)
  have l2:aI nV (heard,[],xj (xi ((eU xs bG bI id).map (iw xs bG))),(0:Int),())=_:=l2;simp only [l1,bW,Option.bind_some,P3 _ hls YP,P5 _ hu,l2]
theorem Tw (bG:Int) (bI:eA) (xs:List ea) (id heard:Int) (h0:bI.length≤1048576) (h:jf xs):uP bG bI xs id heard=some (tP xs bG bI id heard,()):=by
 have TZ:=h.len;obtain ⟨t1,t2,t3⟩:=so bG bI xs id h0 h;have hw:(eU xs bG bI id).length≤1048576:=by omega
 have hls:((eU xs bG bI id).map (iw xs bG)).length≤1048576:=by rw [List.length_map];exact hw
 have YP:∀l∈(eU xs bG bI id).map (iw xs bG),l.1.length≤1048576:=fun l hl=>by
  obtain ⟨d,_,rfl⟩:=List.mem_map.1 hl;exact uD xs bG h d
 have hu:(xi ((eU xs bG bI id).map (iw xs bG))).length≤1048576:=xT (nI _ (out:=[]) rU YP);have hwl:(tJ xs bG bI id).length≤1048576:=Nat.le_trans (List.length_filter_le _ _) hu;unfold uP tP;rw [v7 _ _ _ _ h]
 cases hm:ir xs bG id with
 |none=>rfl
 |some gv=>
  by_cases ho:gv.2.2.1=0
  ·simp only [tG,Option.bind_some,Bool.not_true,cond_false,Wz ho,cond_true]
  simp only [tG,Option.bind_some,Bool.not_true,cond_false,Tn ho,t1,t2];have l1:=ca (round:=n5) (e:=.inl (heard,(eU xs bG bI id).map (iw xs bG),())) (eU xs bG bI id).length (fun k=>(xs,heard,bG,bI,((eU xs bG bI id).take k).map (iw xs bG),eU xs bG bI id,(((eU xs bG bI id).length:Nat):Int),((k:Nat):Int),())) (by
   simp only [n5,bC,zk,aM,cond_false,List.take_length]) (fun k hk=>by
   simp only [n5,bC,zk,aD hk,ax,cond_true,aF,fW hk,List.getElem?_eq_getElem hk,Option.bind_some,v7 _ _ _ _ h,List.length_map,List.length_take,Nat.min_eq_left (Nat.le_of_lt hk),aT (show (k+1)*24≤lim by unfold lim;omega),aN (show k<4611686018427387904 by omega)];rw [List.take_succ_eq_append_getElem hk,List.map_append];rfl)
  have l1:aI n5 (xs,heard,bG,bI,[],eU xs bG bI id,(((eU xs bG bI id).length:Nat):Int),(0:Int),())=_:=l1;have l2:=ca (round:=n6) (e:=.inl ((tJ xs bG bI id).filter (fun r=>decide (heard<r.1)),())) (tJ xs bG bI id).length (fun k=>(heard,((tJ xs bG bI id).take k).filter (fun r=>decide (heard<r.1)),tJ xs bG bI id,(((tJ xs bG bI id).length:Nat):Int),((k:Nat):Int),())) (by
   simp only [n6,aw,zl,aA,aM,cond_false,List.take_length]) (fun k hk=>by
   have hb:=zy (fun r:dY=>decide (heard<r.1)) (tJ xs bG bI id) k;rw [wL _ _ hk];simp only [n6,aw,zl,aA,aD hk,ax,cond_true,aF,fW hk,List.getElem?_eq_getElem hk,Option.bind_some,aN (show k<4611686018427387904 by omega),aT (show ((((tJ xs bG bI id).take k).filter (fun r=>decide (heard<r.1))).length+1)*40≤lim by unfold lim;omega)]
   by_cases h1:heard<(tJ xs bG bI id)[k].1
   ·rw [ak h1];rfl
   ·rw [aq h1,if_neg (by decide),List.append_nil];rfl)
  have l2:aI n6 (heard,[],xj (xi ((eU xs bG bI id).map (iw xs bG))),(((xj (xi ((eU xs bG bI id).map (iw xs bG)))).length:Nat):Int),(0:Int),())=_:=l2;simp only [l1,bW,Option.bind_some,P4 _ hls YP,P6 _ hu,l2]
theorem Tx (bG:Int) (bI:eA) (xs:List ea) (id heard:Int) (h0:bI.length≤1048576) (h:jf xs):uM bG bI xs id heard=some (tP xs bG bI id heard,())∧uP bG bI xs id heard=some (tP xs bG bI id heard,()):=⟨Tv _ _ _ _ _ h0 h,Tw _ _ _ _ _ h0 h⟩
theorem Ff {α:Type} (f:α→Nat) (p:α→Bool):(xs:List α)→wl f (xs.filter p)≤wl f xs
 | []=>Nat.le_refl _
 |x::xs=>by
  have:=Ff f p xs;rw [List.filter_cons]
  split
  ·rw [sb,sb];omega
  ·rw [sb];omega
theorem Tz (xs:List ea) (c:Int) (ms:eA) (id:Int) (h:jf xs):(tJ xs c ms id).length≤60∧wl dD (tJ xs c ms id)≤3600:=by
 have TZ:=h.len;have YP:∀l∈(eU xs c ms id).map (iw xs c),l.1.length≤1048576:=fun l hl=>by
  obtain ⟨d,_,rfl⟩:=List.mem_map.1 hl;exact uD xs c h d
 have:=dv _ (nI _ (out:=[]) rU YP);unfold tJ xj;exact ⟨Nat.le_trans (List.length_filter_le _ _) this.1,Nat.le_trans (Ff _ _ _) this.2⟩
theorem P7 (xs:List ea) (c:Int) (ms:eA) (id heard:Int) (h:jf xs):(tP xs c ms id heard).length≤60∧wl dD (tP xs c ms id heard)≤3600:=by
 have TZ:=h.len;have:=Tz xs c ms id h;unfold tP
 cases ir xs c id with
 |none=>exact ⟨Nat.zero_le _,Nat.zero_le _⟩
 |some gv=>
  show (bif decide (gv.2.2.1=0) then [] else (tJ xs c ms id).filter fun r=>decide (heard<r.1)).length≤60∧wl dD (bif decide (gv.2.2.1=0) then [] else (tJ xs c ms id).filter fun r=>decide (heard<r.1))≤3600
  cases decide (gv.2.2.1=0)
  ·exact ⟨Nat.le_trans (List.length_filter_le _ _) this.1,Nat.le_trans (Ff _ _ _) this.2⟩
  ·exact ⟨Nat.zero_le _,Nat.zero_le _⟩
end Go.TM
set_option linter.unusedSimpArgs false
set_option linter.unusedVariables false
namespace Go.TM
open Go
noncomputable def lQ (c:Int) (ms:List (Int×Unit)) (xs:List ea):Bool:=ms.all fun m=>(ir xs c m.1).isSome
theorem WM (b:ea) (c id:Int) (ms:List (Int×Unit)) (h:b.2.2.2.1.length≤1048576):qG b.1 b.2.1 b.2.2.1 b.2.2.2.1 [(id,())] [(c,ms,())]=some (decide (b.1=id)&&(decide (b.2.1=c)&&qL b),()):=by
 unfold qG;have h1:=(rR b h).2;simp only [List.getElem?_cons_zero,Option.bind_some,h1]
 cases decide (b.1=id)
 ·rfl
 cases decide (b.2.1=c)
 ·rfl
 ·rfl
theorem P8 (xs:List ea) (c id:Int) (ms:List (Int×Unit)) (h:jf xs):eY xs [([(id,())],[(c,ms,())],())]=some ((ir xs c id).isSome,()):=by
 have TZ:=h.len;obtain ⟨e,he,hq⟩:=dA (round:=cX) (x:=(xs,[([(id,())],[(c,ms,())],())],((List.length xs:Nat):Int),((0:Nat):Int),())) xs.length
  (fun k x=>x=(xs,[([(id,())],[(c,ms,())],())],((List.length xs:Nat):Int),((k:Nat):Int),())∧ir xs c id=ir (xs.drop k) c id)
  (fun e=>(e=.inl ()∧ir xs c id=none)∨(∃j:Nat,e=.inr (((j:Nat):Int),())∧(ir xs c id).isSome=true)) (by
   rintro x ⟨rfl,g⟩
   refine ⟨.inl (),by simp only [cX,aw,gM,aw,aM,cond_false],.inl ⟨rfl,?_⟩⟩;rw [g,List.drop_length];rfl) (by
   rintro k x hk ⟨rfl,g⟩
   rw [It xs c id hk] at g;have h1:=WM xs[k] c id ms (h.at hk);simp only [cX,aw,gM,aw,aD hk,ax,cond_true,aF,List.getElem?_eq_getElem hk,List.getElem?_cons_zero,Option.bind_some,h1,aN (show k<4611686018427387904 by omega)]
   cases hb:(decide (xs[k].1=id)&&(decide (xs[k].2.1=c)&&qL xs[k]))
   ·rw [hb] at g;exact .inr ⟨_,rfl,rfl,g⟩
   ·rw [hb] at g;exact .inl ⟨_,rfl,.inr ⟨k,rfl,by rw [g];rfl⟩⟩) ⟨rfl,rfl⟩
 have he:aI cX (xs,[([(id,())],[(c,ms,())],())],((List.length xs:Nat):Int),(0:Int),())=some e:=he;unfold eY iQ;rw [he];rcases hq with ⟨rfl,q⟩ | ⟨j,rfl,q⟩
 ·rw [q];rfl
 ·rw [q];simp only [U9,Option.bind_some,ax]
theorem D4 (c:Int) (ms:List (Int×Unit)) (xs:List ea) (h0:ms.length≤1048576) (h:jf xs):kr c ms xs=some (lQ c ms xs,())∧qH c ms xs=some (lQ c ms xs,()):=by
 have TZ:=h.len;have NY:∀ {k:Nat} (hk:k<ms.length),lQ c (ms.drop k) xs=((ir xs c ms[k].1).isSome&&lQ c (ms.drop (k+1)) xs):=fun hk=>by
  unfold lQ;rw [List.drop_eq_getElem_cons hk,List.all_cons]
 have fin:∀ {e:Sum Unit (Bool×Unit)} {b:Bool},((e=.inl ()∧b=true)∨(e=.inr (false,())∧b=false))→bW (some e) (fun _=>some (true,())) (fun y=>some (y.1,()))=some (b,()):=by
  rintro e b (⟨rfl,rfl⟩ | ⟨rfl,rfl⟩)
  ·rfl
  ·rfl
 constructor
 ·obtain ⟨e,he,hq⟩:=dA (round:=iN) (x:=(xs,c,ms,((0:Nat):Int),())) ms.length
   (fun k x=>x=(xs,c,ms,((k:Nat):Int),())∧lQ c ms xs=lQ c (ms.drop k) xs)
   (fun e=>(e=.inl ()∧lQ c ms xs=true)∨(e=.inr (false,())∧lQ c ms xs=false)) (by
    rintro x ⟨rfl,g⟩
    refine ⟨.inl (),by simp only [iN,aw,mm,aM,cond_false],.inl ⟨rfl,?_⟩⟩;rw [g,List.drop_length];rfl) (by
    rintro k x hk ⟨rfl,g⟩
    rw [NY hk] at g;simp only [iN,aw,mm,aD hk,ax,cond_true,aF,List.getElem?_eq_getElem hk,Option.bind_some,rS c ms xs _ h,aN (show k<4611686018427387904 by omega)]
    cases hb:ir xs c ms[k].1 with
    |none=>
     rw [hb] at g;exact .inl ⟨_,rfl,.inr ⟨rfl,g⟩⟩
    |some b=>
     rw [hb] at g;exact .inr ⟨_,rfl,rfl,g⟩) ⟨rfl,rfl⟩
  have he:aI iN (xs,c,ms,(0:Int),())=some e:=he;unfold kr;rw [he];exact fin hq
 ·obtain ⟨e,he,hq⟩:=dA (round:=ke) (x:=(xs,[(c,ms,())],ms,((List.length ms:Nat):Int),((0:Nat):Int),())) ms.length
   (fun k x=>x=(xs,[(c,ms,())],ms,((List.length ms:Nat):Int),((k:Nat):Int),())∧lQ c ms xs=lQ c (ms.drop k) xs)
   (fun e=>(e=.inl ()∧lQ c ms xs=true)∨(e=.inr (false,())∧lQ c ms xs=false)) (by
    rintro x ⟨rfl,g⟩
    refine ⟨.inl (),by simp only [ke,aw,tE,aM,cond_false],.inl ⟨rfl,?_⟩⟩;rw [g,List.drop_length];rfl) (by
    rintro k x hk ⟨rfl,g⟩
    rw [NY hk] at g;simp only [ke,aw,tE,aD hk,ax,cond_true,aF,List.getElem?_eq_getElem hk,Option.bind_some,P8 xs c _ ms h,aN (show k<4611686018427387904 by omega)]
    cases hb:(ir xs c ms[k].1).isSome
    ·rw [hb] at g;exact .inl ⟨_,rfl,.inr ⟨rfl,g⟩⟩
    ·rw [hb] at g;exact .inr ⟨_,rfl,rfl,g⟩) ⟨rfl,rfl⟩
  have he:aI ke (xs,[(c,ms,())],ms,((List.length ms:Nat):Int),(0:Int),())=some e:=he;unfold qH;rw [he];exact fin hq
end Go.TM
set_option linter.unusedSimpArgs false
set_option linter.unusedVariables false
namespace Go.TM
open Go
def YQ:iA:=(0,0,[],[],[],[],0,0,0,0,0,0,0,0,0,[],())
def WN (m:iA) (level:Int) (text:ByteArray):iA:=(m.1,m.2.1,m.2.2.1,m.2.2.2.1,m.2.2.2.2.1++[(level,())],m.2.2.2.2.2.1++[(text,())],m.2.2.2.2.2.2)
noncomputable def WO (m:iA) (level:Int) (text:ByteArray):Bool:=uC m&&((decide (1≤level)&&decide (level≤2))&&(decide (ByteArray.size text≤60)&&decide (m.2.2.2.2.2.1.length<20)))
noncomputable def eK (m:iA) (level:Int) (text:ByteArray):iA×Bool:=bif WO m level text then (WN m level text,true) else (YQ,false)
theorem WQ (m:iA) (level:Int) (text:ByteArray) (h:ma m≤1048576):AB m.1 m.2.1 m.2.2.1 m.2.2.2.1 m.2.2.2.2.1 m.2.2.2.2.2.1 m.2.2.2.2.2.2.1 m.2.2.2.2.2.2.2.1 m.2.2.2.2.2.2.2.2.1 m.2.2.2.2.2.2.2.2.2.1 m.2.2.2.2.2.2.2.2.2.2.1 m.2.2.2.2.2.2.2.2.2.2.2.1 m.2.2.2.2.2.2.2.2.2.2.2.2.1 m.2.2.2.2.2.2.2.2.2.2.2.2.2.1 m.2.2.2.2.2.2.2.2.2.2.2.2.2.2.1 m.2.2.2.2.2.2.2.2.2.2.2.2.2.2.2.1 level text=some ((eK m level text).1.1,(eK m level text).1.2.1,(eK m level text).1.2.2.1,(eK m level text).1.2.2.2.1,(eK m level text).1.2.2.2.2.1,(eK m level text).1.2.2.2.2.2.1,(eK m level text).1.2.2.2.2.2.2.1,(eK m level text).1.2.2.2.2.2.2.2.1,(eK m level text).1.2.2.2.2.2.2.2.2.1,(eK m level text).1.2.2.2.2.2.2.2.2.2.1,(eK m level text).1.2.2.2.2.2.2.2.2.2.2.1,(eK m level text).1.2.2.2.2.2.2.2.2.2.2.2.1,(eK m level text).1.2.2.2.2.2.2.2.2.2.2.2.2.1,(eK m level text).1.2.2.2.2.2.2.2.2.2.2.2.2.2.1,(eK m level text).1.2.2.2.2.2.2.2.2.2.2.2.2.2.2.1,(eK m level text).1.2.2.2.2.2.2.2.2.2.2.2.2.2.2.2.1,(eK m level text).2,())∧Bb m.1 m.2.1 m.2.2.1 m.2.2.2.1 m.2.2.2.2.1 m.2.2.2.2.2.1 m.2.2.2.2.2.2.1 m.2.2.2.2.2.2.2.1 m.2.2.2.2.2.2.2.2.1 m.2.2.2.2.2.2.2.2.2.1 m.2.2.2.2.2.2.2.2.2.2.1 m.2.2.2.2.2.2.2.2.2.2.2.1 m.2.2.2.2.2.2.2.2.2.2.2.2.1 m.2.2.2.2.2.2.2.2.2.2.2.2.2.1 m.2.2.2.2.2.2.2.2.2.2.2.2.2.2.1 m.2.2.2.2.2.2.2.2.2.2.2.2.2.2.2.1 level text=some ((eK m level text).1.1,(eK m level text).1.2.1,(eK m level text).1.2.2.1,(eK m level text).1.2.2.2.1,(eK m level text).1.2.2.2.2.1,(eK m level text).1.2.2.2.2.2.1,(eK m level text).1.2.2.2.2.2.2.1,(eK m level text).1.2.2.2.2.2.2.2.1,(eK m level text).1.2.2.2.2.2.2.2.2.1,(eK m level text).1.2.2.2.2.2.2.2.2.2.1,(eK m level text).1.2.2.2.2.2.2.2.2.2.2.1,(eK m level text).1.2.2.2.2.2.2.2.2.2.2.2.1,(eK m level text).1.2.2.2.2.2.2.2.2.2.2.2.2.1,(eK m level text).1.2.2.2.2.2.2.2.2.2.2.2.2.2.1,(eK m level text).1.2.2.2.2.2.2.2.2.2.2.2.2.2.2.1,(eK m level text).1.2.2.2.2.2.2.2.2.2.2.2.2.2.2.2.1,(eK m level text).2,()):=by
 obtain ⟨k1,k2,k3⟩:=tH m h;obtain ⟨p1,p2⟩:=nG m.1 m.2.1 m.2.2.1 m.2.2.2.1 m.2.2.2.2.1 m.2.2.2.2.2.1 m.2.2.2.2.2.2.1 m.2.2.2.2.2.2.2.1 m.2.2.2.2.2.2.2.2.1 m.2.2.2.2.2.2.2.2.2.1 m.2.2.2.2.2.2.2.2.2.2.1 m.2.2.2.2.2.2.2.2.2.2.2.1 m.2.2.2.2.2.2.2.2.2.2.2.2.1 m.2.2.2.2.2.2.2.2.2.2.2.2.2.1 m.2.2.2.2.2.2.2.2.2.2.2.2.2.2.1 m.2.2.2.2.2.2.2.2.2.2.2.2.2.2.2.1 h;unfold AB Bb eK WO;delta aA ev;simp only [k1,k2,p1,p2,mv,DY,Option.bind_some]
 cases hb:uC m
 ·cases (decide (1≤level)&&decide (level≤2))
  ·exact ⟨rfl,rfl⟩
  cases decide ((60:Int)<((ByteArray.size text:Nat):Int))
  ·cases decide ((20:Int)≤((List.length m.2.2.2.2.2.1:Nat):Int))
   ·exact ⟨rfl,rfl⟩
   ·exact ⟨rfl,rfl⟩
  ·exact ⟨rfl,rfl⟩
 have hs:=(k3.1 hb).small;unfold ma at hs
 cases (decide (1≤level)&&decide (level≤2))
 ·exact ⟨rfl,rfl⟩
 by_cases w1:ByteArray.size text≤60
 case neg=>rw [aq w1,ak (show (60:Int)<((ByteArray.size text:Nat):Int) by omega)];exact ⟨rfl,rfl⟩
 by_cases w2:m.2.2.2.2.2.1.length<20
 case neg=>rw [ak w1,aq w2,aq (show ¬(60:Int)<((ByteArray.size text:Nat):Int) by omega),ak (show (20:Int)≤((List.length m.2.2.2.2.2.1:Nat):Int) by omega)];exact ⟨rfl,rfl⟩
 rw [ak w1,ak w2,aq (show ¬(60:Int)<((ByteArray.size text:Nat):Int) by omega),aq (show ¬(20:Int)≤((List.length m.2.2.2.2.2.1:Nat):Int) by omega)];simp only [Bool.not_true,cond_false,aT (show (m.2.2.2.2.1.length+1)*8≤lim by unfold lim;omega),aT (show (m.2.2.2.2.2.1.length+1)*16≤lim by unfold lim;omega),cond_true,Bool.and_true];exact ⟨rfl,rfl⟩
theorem oT (c:Int) (xs:eA) (h:xs.length≤1048576):cB c xs=some (c,xs,()):=by
 unfold cB;rw [lA _ h];rfl
end Go.TM
set_option linter.unusedSimpArgs false
set_option linter.unusedVariables false
namespace Go.TM
open Go
theorem kO (b:ea) (h:b.2.2.2.1.length≤1048576):fR b.1 b.2.1 b.2.2.1 b.2.2.2.1=some b∧mq b.1 b.2.1 b.2.2.1 b.2.2.2.1=some b:=by
 constructor
 ·unfold fR;rw [aT (show (0+b.2.2.2.1.length)*40≤lim by unfold lim;omega)];rfl
 ·unfold mq;rw [Be _ h];rfl
theorem Fg (xs:List ea) (h:xs.length+wl dX xs≤1048576):gx xs=some (xs,()):=by
 have hl:=ca (round:=cN) (e:=.inl (xs,())) xs.length (fun k=>(xs,xs.take k,((k:Nat):Int),())) (by
  simp only [cN,gp,aw,aA,aM,cond_false,List.take_length]) (fun k hk=>by
  simp only [cN,gp,aw,aA,aD hk,ax,cond_true,aF,List.getElem?_eq_getElem hk,Option.bind_some,(kO xs[k] (D0 xs hk h)).1,List.length_take,Nat.min_eq_left (Nat.le_of_lt hk),aT (show (k+1)*48≤lim by unfold lim;omega),aN (show k<4611686018427387904 by omega)];rw [List.take_succ_eq_append_getElem hk])
 have hl:aI cN (xs,[],(0:Int),())=_:=hl;unfold gx;rw [hl];rfl
theorem Fh (xs:List ea) (h:xs.length+wl dX xs≤1048576):nX xs=some (xs,()):=by
 have hl:=ca (round:=gy) (e:=.inl (xs,())) xs.length (fun k=>(xs.take k,xs,((xs.length:Nat):Int),((k:Nat):Int),())) (by
  simp only [gy,aw,ou,aw,aA,aM,cond_false,List.take_length]) (fun k hk=>by
  simp only [gy,aw,ou,aw,aA,aD hk,ax,cond_true,aF,List.getElem?_eq_getElem hk,Option.bind_some,(kO xs[k] (D0 xs hk h)).2,List.length_take,Nat.min_eq_left (Nat.le_of_lt hk),aT (show (k+1)*48≤lim by unfold lim;omega),aN (show k<4611686018427387904 by omega)];rw [List.take_succ_eq_append_getElem hk])
 have hl:aI gy ([],xs,((xs.length:Nat):Int),(0:Int),())=_:=hl;unfold nX;rw [hl];rfl
theorem uE (d:bZ) (h:mT d≤1048576):cm d.1 d.2.1 d.2.2.1 d.2.2.2.1 d.2.2.2.2.1 d.2.2.2.2.2.1 d.2.2.2.2.2.2.1 d.2.2.2.2.2.2.2.1 d.2.2.2.2.2.2.2.2.1 d.2.2.2.2.2.2.2.2.2.1 d.2.2.2.2.2.2.2.2.2.2.1 d.2.2.2.2.2.2.2.2.2.2.2.1 d.2.2.2.2.2.2.2.2.2.2.2.2.1 d.2.2.2.2.2.2.2.2.2.2.2.2.2.1 d.2.2.2.2.2.2.2.2.2.2.2.2.2.2.1 d.2.2.2.2.2.2.2.2.2.2.2.2.2.2.2.1 d.2.2.2.2.2.2.2.2.2.2.2.2.2.2.2.2.1 d.2.2.2.2.2.2.2.2.2.2.2.2.2.2.2.2.2.1 d.2.2.2.2.2.2.2.2.2.2.2.2.2.2.2.2.2.2.1 d.2.2.2.2.2.2.2.2.2.2.2.2.2.2.2.2.2.2.2.1 d.2.2.2.2.2.2.2.2.2.2.2.2.2.2.2.2.2.2.2.2.1 d.2.2.2.2.2.2.2.2.2.2.2.2.2.2.2.2.2.2.2.2.2.1 d.2.2.2.2.2.2.2.2.2.2.2.2.2.2.2.2.2.2.2.2.2.2.1 d.2.2.2.2.2.2.2.2.2.2.2.2.2.2.2.2.2.2.2.2.2.2.2.1=some d∧eG d.1 d.2.1 d.2.2.1 d.2.2.2.1 d.2.2.2.2.1 d.2.2.2.2.2.1 d.2.2.2.2.2.2.1 d.2.2.2.2.2.2.2.1 d.2.2.2.2.2.2.2.2.1 d.2.2.2.2.2.2.2.2.2.1 d.2.2.2.2.2.2.2.2.2.2.1 d.2.2.2.2.2.2.2.2.2.2.2.1 d.2.2.2.2.2.2.2.2.2.2.2.2.1 d.2.2.2.2.2.2.2.2.2.2.2.2.2.1 d.2.2.2.2.2.2.2.2.2.2.2.2.2.2.1 d.2.2.2.2.2.2.2.2.2.2.2.2.2.2.2.1 d.2.2.2.2.2.2.2.2.2.2.2.2.2.2.2.2.1 d.2.2.2.2.2.2.2.2.2.2.2.2.2.2.2.2.2.1 d.2.2.2.2.2.2.2.2.2.2.2.2.2.2.2.2.2.2.1 d.2.2.2.2.2.2.2.2.2.2.2.2.2.2.2.2.2.2.2.1 d.2.2.2.2.2.2.2.2.2.2.2.2.2.2.2.2.2.2.2.2.1 d.2.2.2.2.2.2.2.2.2.2.2.2.2.2.2.2.2.2.2.2.2.1 d.2.2.2.2.2.2.2.2.2.2.2.2.2.2.2.2.2.2.2.2.2.2.1 d.2.2.2.2.2.2.2.2.2.2.2.2.2.2.2.2.2.2.2.2.2.2.2.1=some d:=by
 have h0:=h;unfold mT at h0;have p:gn d.2.2.1 d.2.2.2.1 d.2.2.2.2.1 d.2.2.2.2.2.1 d.2.2.2.2.2.2.1 d.2.2.2.2.2.2.2.1 d.2.2.2.2.2.2.2.2.1 d.2.2.2.2.2.2.2.2.2.1 d.2.2.2.2.2.2.2.2.2.2.1 d.2.2.2.2.2.2.2.2.2.2.2.1 d.2.2.2.2.2.2.2.2.2.2.2.2.1 d.2.2.2.2.2.2.2.2.2.2.2.2.2.1 d.2.2.2.2.2.2.2.2.2.2.2.2.2.2.1 d.2.2.2.2.2.2.2.2.2.2.2.2.2.2.2.1 d.2.2.2.2.2.2.2.2.2.2.2.2.2.2.2.2.1 d.2.2.2.2.2.2.2.2.2.2.2.2.2.2.2.2.2.1=some (d.2.2.1,d.2.2.2.1,d.2.2.2.2.1,d.2.2.2.2.2.1,d.2.2.2.2.2.2.1,d.2.2.2.2.2.2.2.1,d.2.2.2.2.2.2.2.2.1,d.2.2.2.2.2.2.2.2.2.1,d.2.2.2.2.2.2.2.2.2.2.1,d.2.2.2.2.2.2.2.2.2.2.2.1,d.2.2.2.2.2.2.2.2.2.2.2.2.1,d.2.2.2.2.2.2.2.2.2.2.2.2.2.1,d.2.2.2.2.2.2.2.2.2.2.2.2.2.2.1,d.2.2.2.2.2.2.2.2.2.2.2.2.2.2.2.1,d.2.2.2.2.2.2.2.2.2.2.2.2.2.2.2.2.1,d.2.2.2.2.2.2.2.2.2.2.2.2.2.2.2.2.2.1,())∧fK d.2.2.1 d.2.2.2.1 d.2.2.2.2.1 d.2.2.2.2.2.1 d.2.2.2.2.2.2.1 d.2.2.2.2.2.2.2.1 d.2.2.2.2.2.2.2.2.1 d.2.2.2.2.2.2.2.2.2.1 d.2.2.2.2.2.2.2.2.2.2.1 d.2.2.2.2.2.2.2.2.2.2.2.1 d.2.2.2.2.2.2.2.2.2.2.2.2.1 d.2.2.2.2.2.2.2.2.2.2.2.2.2.1 d.2.2.2.2.2.2.2.2.2.2.2.2.2.2.1 d.2.2.2.2.2.2.2.2.2.2.2.2.2.2.2.1 d.2.2.2.2.2.2.2.2.2.2.2.2.2.2.2.2.1 d.2.2.2.2.2.2.2.2.2.2.2.2.2.2.2.2.2.1=some (d.2.2.1,d.2.2.2.1,d.2.2.2.2.1,d.2.2.2.2.2.1,d.2.2.2.2.2.2.1,d.2.2.2.2.2.2.2.1,d.2.2.2.2.2.2.2.2.1,d.2.2.2.2.2.2.2.2.2.1,d.2.2.2.2.2.2.2.2.2.2.1,d.2.2.2.2.2.2.2.2.2.2.2.1,d.2.2.2.2.2.2.2.2.2.2.2.2.1,d.2.2.2.2.2.2.2.2.2.2.2.2.2.1,d.2.2.2.2.2.2.2.2.2.2.2.2.2.2.1,d.2.2.2.2.2.2.2.2.2.2.2.2.2.2.2.1,d.2.2.2.2.2.2.2.2.2.2.2.2.2.2.2.2.1,d.2.2.2.2.2.2.2.2.2.2.2.2.2.2.2.2.2.1,()):=nG d.2.2.1 d.2.2.2.1 d.2.2.2.2.1 d.2.2.2.2.2.1 d.2.2.2.2.2.2.1 d.2.2.2.2.2.2.2.1 d.2.2.2.2.2.2.2.2.1 d.2.2.2.2.2.2.2.2.2.1 d.2.2.2.2.2.2.2.2.2.2.1 d.2.2.2.2.2.2.2.2.2.2.2.1 d.2.2.2.2.2.2.2.2.2.2.2.2.1 d.2.2.2.2.2.2.2.2.2.2.2.2.2.1 d.2.2.2.2.2.2.2.2.2.2.2.2.2.2.1 d.2.2.2.2.2.2.2.2.2.2.2.2.2.2.2.1 d.2.2.2.2.2.2.2.2.2.2.2.2.2.2.2.2.1 d.2.2.2.2.2.2.2.2.2.2.2.2.2.2.2.2.2.1 (by omega)
 constructor
 ·unfold cm;delta db;simp only [p.1,Fg d.2.2.2.2.2.2.2.2.2.2.2.2.2.2.2.2.2.2.2.2.2.2.1 (by omega),pb d.2.2.2.2.2.2.2.2.2.2.2.2.2.2.2.2.2.2.2.2.2.2.2.1 (by omega),Option.bind_some,aT (show (0+(d.2.2.2.2.2.2.2.2.2.2.2.2.2.2.2.2.2.2.2.2.2.1).length)*8≤lim by unfold lim;omega),cond_true,List.nil_append]
 ·unfold eG;delta db;simp only [p.2,Fh d.2.2.2.2.2.2.2.2.2.2.2.2.2.2.2.2.2.2.2.2.2.2.1 (by omega),zR d.2.2.2.2.2.2.2.2.2.2.2.2.2.2.2.2.2.2.2.2.2.2.2.1 (by omega),oT d.2.2.2.2.2.2.2.2.2.2.2.2.2.2.2.2.2.2.2.2.1 d.2.2.2.2.2.2.2.2.2.2.2.2.2.2.2.2.2.2.2.2.2.1 (by omega),Option.bind_some]
def Gu:bZ:=(0,false,0,0,[],[],[],[],0,0,0,0,0,0,0,0,0,[],0,0,0,[],[],[],())
def ZT (d:bZ):bZ:=(d.1,false,d.2.2)
noncomputable def ch (d:bZ):bZ×Bool:=bif mb d&&d.2.1 then (ZT d,true) else (Gu,false)
theorem TA (d:bZ) (h:mT d≤1048576):uN d.1 d.2.1 d.2.2.1 d.2.2.2.1 d.2.2.2.2.1 d.2.2.2.2.2.1 d.2.2.2.2.2.2.1 d.2.2.2.2.2.2.2.1 d.2.2.2.2.2.2.2.2.1 d.2.2.2.2.2.2.2.2.2.1 d.2.2.2.2.2.2.2.2.2.2.1 d.2.2.2.2.2.2.2.2.2.2.2.1 d.2.2.2.2.2.2.2.2.2.2.2.2.1 d.2.2.2.2.2.2.2.2.2.2.2.2.2.1 d.2.2.2.2.2.2.2.2.2.2.2.2.2.2.1 d.2.2.2.2.2.2.2.2.2.2.2.2.2.2.2.1 d.2.2.2.2.2.2.2.2.2.2.2.2.2.2.2.2.1 d.2.2.2.2.2.2.2.2.2.2.2.2.2.2.2.2.2.1 d.2.2.2.2.2.2.2.2.2.2.2.2.2.2.2.2.2.2.1 d.2.2.2.2.2.2.2.2.2.2.2.2.2.2.2.2.2.2.2.1 d.2.2.2.2.2.2.2.2.2.2.2.2.2.2.2.2.2.2.2.2.1 d.2.2.2.2.2.2.2.2.2.2.2.2.2.2.2.2.2.2.2.2.2.1 d.2.2.2.2.2.2.2.2.2.2.2.2.2.2.2.2.2.2.2.2.2.2.1 d.2.2.2.2.2.2.2.2.2.2.2.2.2.2.2.2.2.2.2.2.2.2.2.1=some ((ch d).1.1,(ch d).1.2.1,(ch d).1.2.2.1,(ch d).1.2.2.2.1,(ch d).1.2.2.2.2.1,(ch d).1.2.2.2.2.2.1,(ch d).1.2.2.2.2.2.2.1,(ch d).1.2.2.2.2.2.2.2.1,(ch d).1.2.2.2.2.2.2.2.2.1,(ch d).1.2.2.2.2.2.2.2.2.2.1,(ch d).1.2.2.2.2.2.2.2.2.2.2.1,(ch d).1.2.2.2.2.2.2.2.2.2.2.2.1,(ch d).1.2.2.2.2.2.2.2.2.2.2.2.2.1,(ch d).1.2.2.2.2.2.2.2.2.2.2.2.2.2.1,(ch d).1.2.2.2.2.2.2.2.2.2.2.2.2.2.2.1,(ch d).1.2.2.2.2.2.2.2.2.2.2.2.2.2.2.2.1,(ch d).1.2.2.2.2.2.2.2.2.2.2.2.2.2.2.2.2.1,(ch d).1.2.2.2.2.2.2.2.2.2.2.2.2.2.2.2.2.2.1,(ch d).1.2.2.2.2.2.2.2.2.2.2.2.2.2.2.2.2.2.2.1,(ch d).1.2.2.2.2.2.2.2.2.2.2.2.2.2.2.2.2.2.2.2.1,(ch d).1.2.2.2.2.2.2.2.2.2.2.2.2.2.2.2.2.2.2.2.2.1,(ch d).1.2.2.2.2.2.2.2.2.2.2.2.2.2.2.2.2.2.2.2.2.2.1,(ch d).1.2.2.2.2.2.2.2.2.2.2.2.2.2.2.2.2.2.2.2.2.2.2.1,(ch d).1.2.2.2.2.2.2.2.2.2.2.2.2.2.2.2.2.2.2.2.2.2.2.2.1,(ch d).2,())∧xO d.1 d.2.1 d.2.2.1 d.2.2.2.1 d.2.2.2.2.1 d.2.2.2.2.2.1 d.2.2.2.2.2.2.1 d.2.2.2.2.2.2.2.1 d.2.2.2.2.2.2.2.2.1 d.2.2.2.2.2.2.2.2.2.1 d.2.2.2.2.2.2.2.2.2.2.1 d.2.2.2.2.2.2.2.2.2.2.2.1 d.2.2.2.2.2.2.2.2.2.2.2.2.1 d.2.2.2.2.2.2.2.2.2.2.2.2.2.1 d.2.2.2.2.2.2.2.2.2.2.2.2.2.2.1 d.2.2.2.2.2.2.2.2.2.2.2.2.2.2.2.1 d.2.2.2.2.2.2.2.2.2.2.2.2.2.2.2.2.1 d.2.2.2.2.2.2.2.2.2.2.2.2.2.2.2.2.2.1 d.2.2.2.2.2.2.2.2.2.2.2.2.2.2.2.2.2.2.1 d.2.2.2.2.2.2.2.2.2.2.2.2.2.2.2.2.2.2.2.1 d.2.2.2.2.2.2.2.2.2.2.2.2.2.2.2.2.2.2.2.2.1 d.2.2.2.2.2.2.2.2.2.2.2.2.2.2.2.2.2.2.2.2.2.1 d.2.2.2.2.2.2.2.2.2.2.2.2.2.2.2.2.2.2.2.2.2.2.1 d.2.2.2.2.2.2.2.2.2.2.2.2.2.2.2.2.2.2.2.2.2.2.2.1=some ((ch d).1.1,(ch d).1.2.1,(ch d).1.2.2.1,(ch d).1.2.2.2.1,(ch d).1.2.2.2.2.1,(ch d).1.2.2.2.2.2.1,(ch d).1.2.2.2.2.2.2.1,(ch d).1.2.2.2.2.2.2.2.1,(ch d).1.2.2.2.2.2.2.2.2.1,(ch d).1.2.2.2.2.2.2.2.2.2.1,(ch d).1.2.2.2.2.2.2.2.2.2.2.1,(ch d).1.2.2.2.2.2.2.2.2.2.2.2.1,(ch d).1.2.2.2.2.2.2.2.2.2.2.2.2.1,(ch d).1.2.2.2.2.2.2.2.2.2.2.2.2.2.1,(ch d).1.2.2.2.2.2.2.2.2.2.2.2.2.2.2.1,(ch d).1.2.2.2.2.2.2.2.2.2.2.2.2.2.2.2.1,(ch d).1.2.2.2.2.2.2.2.2.2.2.2.2.2.2.2.2.1,(ch d).1.2.2.2.2.2.2.2.2.2.2.2.2.2.2.2.2.2.1,(ch d).1.2.2.2.2.2.2.2.2.2.2.2.2.2.2.2.2.2.2.1,(ch d).1.2.2.2.2.2.2.2.2.2.2.2.2.2.2.2.2.2.2.2.1,(ch d).1.2.2.2.2.2.2.2.2.2.2.2.2.2.2.2.2.2.2.2.2.1,(ch d).1.2.2.2.2.2.2.2.2.2.2.2.2.2.2.2.2.2.2.2.2.2.1,(ch d).1.2.2.2.2.2.2.2.2.2.2.2.2.2.2.2.2.2.2.2.2.2.2.1,(ch d).1.2.2.2.2.2.2.2.2.2.2.2.2.2.2.2.2.2.2.2.2.2.2.2.1,(ch d).2,()):=by
 obtain ⟨k1,k2,_⟩:=mc d h;obtain ⟨p1,p2⟩:=uE d h;unfold uN xO ch;delta db bA;simp only [k1,k2,p1,p2,Option.bind_some]
 cases mb d<;>cases hd:d.2.1
 ·exact ⟨rfl,rfl⟩
 ·exact ⟨rfl,rfl⟩
 ·exact ⟨rfl,rfl⟩
 ·exact ⟨rfl,rfl⟩
def iV (d:bZ) (m:iA):bZ:=(d.1,d.2.1,m.1,m.2.1,m.2.2.1,m.2.2.2.1,m.2.2.2.2.1,m.2.2.2.2.2.1,m.2.2.2.2.2.2.1,m.2.2.2.2.2.2.2.1,m.2.2.2.2.2.2.2.2.1,m.2.2.2.2.2.2.2.2.2.1,m.2.2.2.2.2.2.2.2.2.2.1,m.2.2.2.2.2.2.2.2.2.2.2.1,m.2.2.2.2.2.2.2.2.2.2.2.2.1,m.2.2.2.2.2.2.2.2.2.2.2.2.2.1,m.2.2.2.2.2.2.2.2.2.2.2.2.2.2.1,m.2.2.2.2.2.2.2.2.2.2.2.2.2.2.2.1,d.2.2.2.2.2.2.2.2.2.2.2.2.2.2.2.2.2.2.1,d.2.2.2.2.2.2.2.2.2.2.2.2.2.2.2.2.2.2.2.1,d.2.2.2.2.2.2.2.2.2.2.2.2.2.2.2.2.2.2.2.2.1,d.2.2.2.2.2.2.2.2.2.2.2.2.2.2.2.2.2.2.2.2.2.1,d.2.2.2.2.2.2.2.2.2.2.2.2.2.2.2.2.2.2.2.2.2.2.1,d.2.2.2.2.2.2.2.2.2.2.2.2.2.2.2.2.2.2.2.2.2.2.2.1,())
noncomputable def bO (d:bZ) (level:Int) (text:ByteArray):bZ×Bool:=
 bif mb d&&(!d.2.1&&(!decide (d.2.2.2.2.2.2.2.2.2.2.2.2.2.2.2.2.2.2.2.1=0)&&(eK (aJ d) level text).2)) then (iV d (eK (aJ d) level text).1,true) else (Gu,false)
theorem WR (d:bZ):ma (aJ d)≤mT d:=by
 unfold mT;show (List.length d.2.2.2.2.1+wl jK d.2.2.2.2.1)+(List.length d.2.2.2.2.2.1+wl dD d.2.2.2.2.2.1)+(List.length d.2.2.2.2.2.2.1+wl jK d.2.2.2.2.2.2.1)+(List.length d.2.2.2.2.2.2.2.1+wl Jo d.2.2.2.2.2.2.2.1)+(List.length d.2.2.2.2.2.2.2.2.2.2.2.2.2.2.2.2.2.1+wl jK d.2.2.2.2.2.2.2.2.2.2.2.2.2.2.2.2.2.1)≤_;omega
theorem NZ (d:bZ) (level:Int) (text:ByteArray) (h:mT d≤1048576):qa d.1 d.2.1 d.2.2.1 d.2.2.2.1 d.2.2.2.2.1 d.2.2.2.2.2.1 d.2.2.2.2.2.2.1 d.2.2.2.2.2.2.2.1 d.2.2.2.2.2.2.2.2.1 d.2.2.2.2.2.2.2.2.2.1 d.2.2.2.2.2.2.2.2.2.2.1 d.2.2.2.2.2.2.2.2.2.2.2.1 d.2.2.2.2.2.2.2.2.2.2.2.2.1 d.2.2.2.2.2.2.2.2.2.2.2.2.2.1 d.2.2.2.2.2.2.2.2.2.2.2.2.2.2.1 d.2.2.2.2.2.2.2.2.2.2.2.2.2.2.2.1 d.2.2.2.2.2.2.2.2.2.2.2.2.2.2.2.2.1 d.2.2.2.2.2.2.2.2.2.2.2.2.2.2.2.2.2.1 d.2.2.2.2.2.2.2.2.2.2.2.2.2.2.2.2.2.2.1 d.2.2.2.2.2.2.2.2.2.2.2.2.2.2.2.2.2.2.2.1 d.2.2.2.2.2.2.2.2.2.2.2.2.2.2.2.2.2.2.2.2.1 d.2.2.2.2.2.2.2.2.2.2.2.2.2.2.2.2.2.2.2.2.2.1 d.2.2.2.2.2.2.2.2.2.2.2.2.2.2.2.2.2.2.2.2.2.2.1 d.2.2.2.2.2.2.2.2.2.2.2.2.2.2.2.2.2.2.2.2.2.2.2.1 level text=some ((bO d level text).1.1,(bO d level text).1.2.1,(bO d level text).1.2.2.1,(bO d level text).1.2.2.2.1,(bO d level text).1.2.2.2.2.1,(bO d level text).1.2.2.2.2.2.1,(bO d level text).1.2.2.2.2.2.2.1,(bO d level text).1.2.2.2.2.2.2.2.1,(bO d level text).1.2.2.2.2.2.2.2.2.1,(bO d level text).1.2.2.2.2.2.2.2.2.2.1,(bO d level text).1.2.2.2.2.2.2.2.2.2.2.1,(bO d level text).1.2.2.2.2.2.2.2.2.2.2.2.1,(bO d level text).1.2.2.2.2.2.2.2.2.2.2.2.2.1,(bO d level text).1.2.2.2.2.2.2.2.2.2.2.2.2.2.1,(bO d level text).1.2.2.2.2.2.2.2.2.2.2.2.2.2.2.1,(bO d level text).1.2.2.2.2.2.2.2.2.2.2.2.2.2.2.2.1,(bO d level text).1.2.2.2.2.2.2.2.2.2.2.2.2.2.2.2.2.1,(bO d level text).1.2.2.2.2.2.2.2.2.2.2.2.2.2.2.2.2.2.1,(bO d level text).1.2.2.2.2.2.2.2.2.2.2.2.2.2.2.2.2.2.2.1,(bO d level text).1.2.2.2.2.2.2.2.2.2.2.2.2.2.2.2.2.2.2.2.1,(bO d level text).1.2.2.2.2.2.2.2.2.2.2.2.2.2.2.2.2.2.2.2.2.1,(bO d level text).1.2.2.2.2.2.2.2.2.2.2.2.2.2.2.2.2.2.2.2.2.2.1,(bO d level text).1.2.2.2.2.2.2.2.2.2.2.2.2.2.2.2.2.2.2.2.2.2.2.1,(bO d level text).1.2.2.2.2.2.2.2.2.2.2.2.2.2.2.2.2.2.2.2.2.2.2.2.1,(bO d level text).2,())∧vX d.1 d.2.1 d.2.2.1 d.2.2.2.1 d.2.2.2.2.1 d.2.2.2.2.2.1 d.2.2.2.2.2.2.1 d.2.2.2.2.2.2.2.1 d.2.2.2.2.2.2.2.2.1 d.2.2.2.2.2.2.2.2.2.1 d.2.2.2.2.2.2.2.2.2.2.1 d.2.2.2.2.2.2.2.2.2.2.2.1 d.2.2.2.2.2.2.2.2.2.2.2.2.1 d.2.2.2.2.2.2.2.2.2.2.2.2.2.1 d.2.2.2.2.2.2.2.2.2.2.2.2.2.2.1 d.2.2.2.2.2.2.2.2.2.2.2.2.2.2.2.1 d.2.2.2.2.2.2.2.2.2.2.2.2.2.2.2.2.1 d.2.2.2.2.2.2.2.2.2.2.2.2.2.2.2.2.2.1 d.2.2.2.2.2.2.2.2.2.2.2.2.2.2.2.2.2.2.1 d.2.2.2.2.2.2.2.2.2.2.2.2.2.2.2.2.2.2.2.1 d.2.2.2.2.2.2.2.2.2.2.2.2.2.2.2.2.2.2.2.2.1 d.2.2.2.2.2.2.2.2.2.2.2.2.2.2.2.2.2.2.2.2.2.1 d.2.2.2.2.2.2.2.2.2.2.2.2.2.2.2.2.2.2.2.2.2.2.1 d.2.2.2.2.2.2.2.2.2.2.2.2.2.2.2.2.2.2.2.2.2.2.2.1 level text=some ((bO d level text).1.1,(bO d level text).1.2.1,(bO d level text).1.2.2.1,(bO d level text).1.2.2.2.1,(bO d level text).1.2.2.2.2.1,(bO d level text).1.2.2.2.2.2.1,(bO d level text).1.2.2.2.2.2.2.1,(bO d level text).1.2.2.2.2.2.2.2.1,(bO d level text).1.2.2.2.2.2.2.2.2.1,(bO d level text).1.2.2.2.2.2.2.2.2.2.1,(bO d level text).1.2.2.2.2.2.2.2.2.2.2.1,(bO d level text).1.2.2.2.2.2.2.2.2.2.2.2.1,(bO d level text).1.2.2.2.2.2.2.2.2.2.2.2.2.1,(bO d level text).1.2.2.2.2.2.2.2.2.2.2.2.2.2.1,(bO d level text).1.2.2.2.2.2.2.2.2.2.2.2.2.2.2.1,(bO d level text).1.2.2.2.2.2.2.2.2.2.2.2.2.2.2.2.1,(bO d level text).1.2.2.2.2.2.2.2.2.2.2.2.2.2.2.2.2.1,(bO d level text).1.2.2.2.2.2.2.2.2.2.2.2.2.2.2.2.2.2.1,(bO d level text).1.2.2.2.2.2.2.2.2.2.2.2.2.2.2.2.2.2.2.1,(bO d level text).1.2.2.2.2.2.2.2.2.2.2.2.2.2.2.2.2.2.2.2.1,(bO d level text).1.2.2.2.2.2.2.2.2.2.2.2.2.2.2.2.2.2.2.2.2.1,(bO d level text).1.2.2.2.2.2.2.2.2.2.2.2.2.2.2.2.2.2.2.2.2.2.1,(bO d level text).1.2.2.2.2.2.2.2.2.2.2.2.2.2.2.2.2.2.2.2.2.2.2.1,(bO d level text).1.2.2.2.2.2.2.2.2.2.2.2.2.2.2.2.2.2.2.2.2.2.2.2.1,(bO d level text).2,()):=by
 obtain ⟨k1,k2,_⟩:=mc d h;obtain ⟨p1,p2⟩:=uE d h;have s:AB d.2.2.1 d.2.2.2.1 d.2.2.2.2.1 d.2.2.2.2.2.1 d.2.2.2.2.2.2.1 d.2.2.2.2.2.2.2.1 d.2.2.2.2.2.2.2.2.1 d.2.2.2.2.2.2.2.2.2.1 d.2.2.2.2.2.2.2.2.2.2.1 d.2.2.2.2.2.2.2.2.2.2.2.1 d.2.2.2.2.2.2.2.2.2.2.2.2.1 d.2.2.2.2.2.2.2.2.2.2.2.2.2.1 d.2.2.2.2.2.2.2.2.2.2.2.2.2.2.1 d.2.2.2.2.2.2.2.2.2.2.2.2.2.2.2.1 d.2.2.2.2.2.2.2.2.2.2.2.2.2.2.2.2.1 d.2.2.2.2.2.2.2.2.2.2.2.2.2.2.2.2.2.1 level text=some ((eK (aJ d) level text).1.1,(eK (aJ d) level text).1.2.1,(eK (aJ d) level text).1.2.2.1,(eK (aJ d) level text).1.2.2.2.1,(eK (aJ d) level text).1.2.2.2.2.1,(eK (aJ d) level text).1.2.2.2.2.2.1,(eK (aJ d) level text).1.2.2.2.2.2.2.1,(eK (aJ d) level text).1.2.2.2.2.2.2.2.1,(eK (aJ d) level text).1.2.2.2.2.2.2.2.2.1,(eK (aJ d) level text).1.2.2.2.2.2.2.2.2.2.1,(eK (aJ d) level text).1.2.2.2.2.2.2.2.2.2.2.1,(eK (aJ d) level text).1.2.2.2.2.2.2.2.2.2.2.2.1,(eK (aJ d) level text).1.2.2.2.2.2.2.2.2.2.2.2.2.1,(eK (aJ d) level text).1.2.2.2.2.2.2.2.2.2.2.2.2.2.1,(eK (aJ d) level text).1.2.2.2.2.2.2.2.2.2.2.2.2.2.2.1,(eK (aJ d) level text).1.2.2.2.2.2.2.2.2.2.2.2.2.2.2.2.1,(eK (aJ d) level text).2,())∧Bb d.2.2.1 d.2.2.2.1 d.2.2.2.2.1 d.2.2.2.2.2.1 d.2.2.2.2.2.2.1 d.2.2.2.2.2.2.2.1 d.2.2.2.2.2.2.2.2.1 d.2.2.2.2.2.2.2.2.2.1 d.2.2.2.2.2.2.2.2.2.2.1 d.2.2.2.2.2.2.2.2.2.2.2.1 d.2.2.2.2.2.2.2.2.2.2.2.2.1 d.2.2.2.2.2.2.2.2.2.2.2.2.2.1 d.2.2.2.2.2.2.2.2.2.2.2.2.2.2.1 d.2.2.2.2.2.2.2.2.2.2.2.2.2.2.2.1 d.2.2.2.2.2.2.2.2.2.2.2.2.2.2.2.2.1 d.2.2.2.2.2.2.2.2.2.2.2.2.2.2.2.2.2.1 level text=some ((eK (aJ d) level text).1.1,(eK (aJ d) level text).1.2.1,(eK (aJ d) level text).1.2.2.1,(eK (aJ d) level text).1.2.2.2.1,(eK (aJ d) level text).1.2.2.2.2.1,(eK (aJ d) level text).1.2.2.2.2.2.1,(eK (aJ d) level text).1.2.2.2.2.2.2.1,(eK (aJ d) level text).1.2.2.2.2.2.2.2.1,(eK (aJ d) level text).1.2.2.2.2.2.2.2.2.1,(eK (aJ d) level text).1.2.2.2.2.2.2.2.2.2.1,(eK (aJ d) level text).1.2.2.2.2.2.2.2.2.2.2.1,(eK (aJ d) level text).1.2.2.2.2.2.2.2.2.2.2.2.1,(eK (aJ d) level text).1.2.2.2.2.2.2.2.2.2.2.2.2.1,(eK (aJ d) level text).1.2.2.2.2.2.2.2.2.2.2.2.2.2.1,(eK (aJ d) level text).1.2.2.2.2.2.2.2.2.2.2.2.2.2.2.1,(eK (aJ d) level text).1.2.2.2.2.2.2.2.2.2.2.2.2.2.2.2.1,(eK (aJ d) level text).2,()):=WQ (aJ d) level text (Nat.le_trans (WR d) h);unfold qa vX bO iV;delta db bA;simp only [k1,k2,p1,p2,s.1,s.2,Option.bind_some];generalize eK (aJ d) level text=q;obtain ⟨m',b⟩:=q
 cases mb d
 ·cases d.2.1
  ·cases decide (d.2.2.2.2.2.2.2.2.2.2.2.2.2.2.2.2.2.2.2.1=0)
   ·exact ⟨rfl,rfl⟩
   ·exact ⟨rfl,rfl⟩
  ·exact ⟨rfl,rfl⟩
 ·cases d.2.1
  ·cases decide (d.2.2.2.2.2.2.2.2.2.2.2.2.2.2.2.2.2.2.2.1=0)
   ·cases b
    ·exact ⟨rfl,rfl⟩
    ·exact ⟨rfl,rfl⟩
   ·exact ⟨rfl,rfl⟩
  ·exact ⟨rfl,rfl⟩
end Go.TM
set_option linter.unusedSimpArgs false
set_option linter.unusedVariables false
namespace Go.TM
open Go
theorem WS (d:bZ):fH d.2.2.2.2.2.2.2.2.2.2.2.2.2.2.2.2.2.2.2.2.1 d.2.2.2.2.2.2.2.2.2.2.2.2.2.2.2.2.2.2.2.2.2.1=some ((decide (d.2.2.2.2.2.2.2.2.2.2.2.2.2.2.2.2.2.2.2.2.1=0)&&decide (((List.length d.2.2.2.2.2.2.2.2.2.2.2.2.2.2.2.2.2.2.2.2.2.1:Nat):Int)=0)),()):=(uS _ _).1
theorem xU (d:bZ) (h:mT d≤1048576):ff d.1 d.2.1 d.2.2.1 d.2.2.2.1 d.2.2.2.2.1 d.2.2.2.2.2.1 d.2.2.2.2.2.2.1 d.2.2.2.2.2.2.2.1 d.2.2.2.2.2.2.2.2.1 d.2.2.2.2.2.2.2.2.2.1 d.2.2.2.2.2.2.2.2.2.2.1 d.2.2.2.2.2.2.2.2.2.2.2.1 d.2.2.2.2.2.2.2.2.2.2.2.2.1 d.2.2.2.2.2.2.2.2.2.2.2.2.2.1 d.2.2.2.2.2.2.2.2.2.2.2.2.2.2.1 d.2.2.2.2.2.2.2.2.2.2.2.2.2.2.2.1 d.2.2.2.2.2.2.2.2.2.2.2.2.2.2.2.2.1 d.2.2.2.2.2.2.2.2.2.2.2.2.2.2.2.2.2.1 d.2.2.2.2.2.2.2.2.2.2.2.2.2.2.2.2.2.2.1 d.2.2.2.2.2.2.2.2.2.2.2.2.2.2.2.2.2.2.2.1 d.2.2.2.2.2.2.2.2.2.2.2.2.2.2.2.2.2.2.2.2.1 d.2.2.2.2.2.2.2.2.2.2.2.2.2.2.2.2.2.2.2.2.2.1 d.2.2.2.2.2.2.2.2.2.2.2.2.2.2.2.2.2.2.2.2.2.2.1 d.2.2.2.2.2.2.2.2.2.2.2.2.2.2.2.2.2.2.2.2.2.2.2.1=some ((mb d&&(!d.2.1&&(decide (0<d.2.2.2.2.2.2.2.2.2.2.2.2.2.2.2.2.2.2.2.1)&&decide (d.2.2.2.2.2.2.2.2.2.2.2.2.2.2.2.2.2.2.2.2.1=0)))),()):=by
 obtain ⟨k1,_,k3⟩:=mc d h;unfold ff;simp only [k1,WS,Option.bind_some]
 cases hb:mb d
 ·rfl
 have q:=k3.1 hb
 cases hd:d.2.1
 ·by_cases ho:0<d.2.2.2.2.2.2.2.2.2.2.2.2.2.2.2.2.2.2.2.1
  ·rw [ak ho];rcases q.nH with j | j
   ·rw [j.1,j.2.1];rfl
   ·have:¬d.2.2.2.2.2.2.2.2.2.2.2.2.2.2.2.2.2.2.2.2.1=0:=by have:=j.1.1.1;omega
    rw [aq this];rfl
  ·rw [aq ho];rfl
 ·rfl
theorem N0 (c:Int) (xs:eA) (h:xs.length≤1048576) (hr:oR c xs):oX c xs=some (c,1,0,0,0,[],())∧pa c xs=some (c,1,0,0,0,[],()):=by
 obtain ⟨k1,k2,k3⟩:=uB c xs h;unfold oX pa;rw [k1,k2,k3.2 hr];exact ⟨rfl,rfl⟩
theorem D5 (d:bZ) (h:mT d≤1048576):∃(t:mR) (b:Bool),nR d.1 d.2.1 d.2.2.1 d.2.2.2.1 d.2.2.2.2.1 d.2.2.2.2.2.1 d.2.2.2.2.2.2.1 d.2.2.2.2.2.2.2.1 d.2.2.2.2.2.2.2.2.1 d.2.2.2.2.2.2.2.2.2.1 d.2.2.2.2.2.2.2.2.2.2.1 d.2.2.2.2.2.2.2.2.2.2.2.1 d.2.2.2.2.2.2.2.2.2.2.2.2.1 d.2.2.2.2.2.2.2.2.2.2.2.2.2.1 d.2.2.2.2.2.2.2.2.2.2.2.2.2.2.1 d.2.2.2.2.2.2.2.2.2.2.2.2.2.2.2.1 d.2.2.2.2.2.2.2.2.2.2.2.2.2.2.2.2.1 d.2.2.2.2.2.2.2.2.2.2.2.2.2.2.2.2.2.1 d.2.2.2.2.2.2.2.2.2.2.2.2.2.2.2.2.2.2.1 d.2.2.2.2.2.2.2.2.2.2.2.2.2.2.2.2.2.2.2.1 d.2.2.2.2.2.2.2.2.2.2.2.2.2.2.2.2.2.2.2.2.1 d.2.2.2.2.2.2.2.2.2.2.2.2.2.2.2.2.2.2.2.2.2.1 d.2.2.2.2.2.2.2.2.2.2.2.2.2.2.2.2.2.2.2.2.2.2.1 d.2.2.2.2.2.2.2.2.2.2.2.2.2.2.2.2.2.2.2.2.2.2.2.1=some (t.1,t.2.1,t.2.2.1,t.2.2.2.1,t.2.2.2.2.1,t.2.2.2.2.2.1,b,())∧zn d.1 d.2.1 d.2.2.1 d.2.2.2.1 d.2.2.2.2.1 d.2.2.2.2.2.1 d.2.2.2.2.2.2.1 d.2.2.2.2.2.2.2.1 d.2.2.2.2.2.2.2.2.1 d.2.2.2.2.2.2.2.2.2.1 d.2.2.2.2.2.2.2.2.2.2.1 d.2.2.2.2.2.2.2.2.2.2.2.1 d.2.2.2.2.2.2.2.2.2.2.2.2.1 d.2.2.2.2.2.2.2.2.2.2.2.2.2.1 d.2.2.2.2.2.2.2.2.2.2.2.2.2.2.1 d.2.2.2.2.2.2.2.2.2.2.2.2.2.2.2.1 d.2.2.2.2.2.2.2.2.2.2.2.2.2.2.2.2.1 d.2.2.2.2.2.2.2.2.2.2.2.2.2.2.2.2.2.1 d.2.2.2.2.2.2.2.2.2.2.2.2.2.2.2.2.2.2.1 d.2.2.2.2.2.2.2.2.2.2.2.2.2.2.2.2.2.2.2.1 d.2.2.2.2.2.2.2.2.2.2.2.2.2.2.2.2.2.2.2.2.1 d.2.2.2.2.2.2.2.2.2.2.2.2.2.2.2.2.2.2.2.2.2.1 d.2.2.2.2.2.2.2.2.2.2.2.2.2.2.2.2.2.2.2.2.2.2.1 d.2.2.2.2.2.2.2.2.2.2.2.2.2.2.2.2.2.2.2.2.2.2.2.1=some (t.1,t.2.1,t.2.2.1,t.2.2.2.1,t.2.2.2.2.1,t.2.2.2.2.2.1,b,())∧t.2.2.2.2.2.1=[]:=by
 obtain ⟨k1,k2,k3⟩:=mc d h;have hi:=xU d h;unfold nR zn;delta bA;simp only [hi,k2,Option.bind_some];have zero:(∃(t:mR) (b:Bool),some ((0:Int),(0:Int),(0:Int),(0:Int),(0:Int),([]:eA),false,())=some (t.1,t.2.1,t.2.2.1,t.2.2.2.1,t.2.2.2.2.1,t.2.2.2.2.2.1,b,())∧some ((0:Int),(0:Int),(0:Int),(0:Int),(0:Int),([]:eA),false,())=some (t.1,t.2.1,t.2.2.1,t.2.2.2.1,t.2.2.2.2.1,t.2.2.2.2.2.1,b,())∧t.2.2.2.2.2.1=[]):=⟨(0,0,0,0,0,[],()),false,rfl,rfl,rfl⟩
 cases hd:d.2.1
 case true=>
  cases mb d<;>exact zero
 by_cases ho:0<d.2.2.2.2.2.2.2.2.2.2.2.2.2.2.2.2.2.2.2.1
 case neg=>
  rw [aq ho,ak (show d.2.2.2.2.2.2.2.2.2.2.2.2.2.2.2.2.2.2.2.1≤0 by omega)]
  cases mb d<;>exact zero
 rw [ak ho,aq (show ¬d.2.2.2.2.2.2.2.2.2.2.2.2.2.2.2.2.2.2.2.1≤0 by omega)]
 by_cases hj:d.2.2.2.2.2.2.2.2.2.2.2.2.2.2.2.2.2.2.2.2.1=0
 case neg=>
  rw [aq hj]
  cases mb d<;>exact zero
 rw [ak hj]
 cases hb:mb d
 ·cases decide (d.2.2.2.2.2.2.2.2.1=0)
  ·exact zero
  ·exact zero
 have q:=k3.1 hb;have hm:qW (aJ d):=by
  rcases q.tI with m | m
  ·have h1:d.2.2.2.1=0:=m.2.1;have h2:=q.old.1;omega
  ·exact m.1
 have hr:oR d.2.2.2.1 d.2.2.2.2.1:=hm.ring;unfold mT at h;obtain ⟨f1,f2⟩:=N0 d.2.2.2.1 d.2.2.2.2.1 (by omega) hr;have hl:0<(d.2.2.2.2.1).length:=by have:=hr.2.1;omega
 have mK:¬((List.length d.2.2.2.2.1:Nat):Int)=0:=by omega
 rw [f1,f2,List.getElem?_eq_getElem hl,aq mK];simp only [Option.bind_some,Bool.not_true,Bool.not_false,Bool.and_true,cond_true,cond_false]
 by_cases h8:d.2.2.2.2.2.2.2.2.1=0
 ·rw [ak h8]
  by_cases h0:((d.2.2.2.2.1)[0]).1=d.1
  ·rw [ak h0];exact ⟨(d.2.2.2.1,1,0,0,0,[],()),true,rfl,rfl,rfl⟩
  ·rw [aq h0];exact zero
 ·rw [aq h8]
  by_cases h0:((d.2.2.2.2.1)[0]).1=d.1
  ·rw [ak h0];exact zero
  ·rw [aq h0];exact zero
end Go.TM
set_option linter.unusedSimpArgs false
set_option linter.unusedVariables false
namespace Go.TM
open Go
def zA (xs:aW) (s:Int):dY:=((qK (fk xs s)).1,(qK (fk xs s)).2.1,(qK (fk xs s)).2.2.1,(qK (fk xs s)).2.2.2.1,())
def jb (xs:aW) (h:Int) (k:Nat):aW:=(List.range k).map fun j=>zA xs (h+((j+1:Nat):Int))
theorem zB (xs:aW) (h:Int) (k:Nat):(jb xs h k).length=k:=by simp [jb]
theorem wM (xs:aW) (h:Int) (k:Nat):jb xs h (k+1)=jb xs h k++[zA xs (h+((k+1:Nat):Int))]:=by
 unfold jb;rw [List.range_succ,List.map_append];rfl
theorem L6 {xs:aW} {s:Int} (h:eV xs xs.length):ByteArray.size (zA xs s).2.2.2.1≤60:=by
 show ByteArray.size (qK (fk xs s)).2.2.2.1≤60
 cases e:fk xs s with
 |none=>exact Nat.zero_le _
 |some r=>
  obtain ⟨k,hk,rfl⟩:=List.mem_iff_getElem.1 (CM e).1;exact (h k hk hk).1.2.2.2
theorem N1 {xs:aW} {h:Int} {k:Nat} (hi:eV xs xs.length):wl dD (jb xs h k)≤60*k:=by
 have:=KU dD 60 (jb xs h k) (fun x hx=>by
  unfold jb at hx;obtain ⟨j,_,rfl⟩:=List.mem_map.1 hx;exact L6 hi)
 rwa [zB] at this
def Bg (xs:aW) (line s:Int):Prop:=(zA xs s).2.2.1=2∧line<(zA xs s).1
theorem N2 (m:iA) (h0:ma m≤1048576):∃(k:Nat) (v:Int),nT m.1 m.2.1 m.2.2.1 m.2.2.2.1 m.2.2.2.2.1 m.2.2.2.2.2.1 m.2.2.2.2.2.2.1 m.2.2.2.2.2.2.2.1 m.2.2.2.2.2.2.2.2.1 m.2.2.2.2.2.2.2.2.2.1 m.2.2.2.2.2.2.2.2.2.2.1 m.2.2.2.2.2.2.2.2.2.2.2.1 m.2.2.2.2.2.2.2.2.2.2.2.2.1 m.2.2.2.2.2.2.2.2.2.2.2.2.2.1 m.2.2.2.2.2.2.2.2.2.2.2.2.2.2.1 m.2.2.2.2.2.2.2.2.2.2.2.2.2.2.2.1=some (m.1,m.2.1,m.2.2.1,m.2.2.2.1,m.2.2.2.2.1,m.2.2.2.2.2.1,m.2.2.2.2.2.2.1,m.2.2.2.2.2.2.2.1,m.2.2.2.2.2.2.2.2.1,v,m.2.2.2.2.2.2.2.2.2.2.1,m.2.2.2.2.2.2.2.2.2.2.2.1,m.2.2.2.2.2.2.2.2.2.2.2.2.1,m.2.2.2.2.2.2.2.2.2.2.2.2.2.1,m.2.2.2.2.2.2.2.2.2.2.2.2.2.2.1,m.2.2.2.2.2.2.2.2.2.2.2.2.2.2.2.1,jb m.2.2.2.1 m.2.2.2.2.2.2.2.2.2.1 k,())∧pF m.1 m.2.1 m.2.2.1 m.2.2.2.1 m.2.2.2.2.1 m.2.2.2.2.2.1 m.2.2.2.2.2.2.1 m.2.2.2.2.2.2.2.1 m.2.2.2.2.2.2.2.2.1 m.2.2.2.2.2.2.2.2.2.1 m.2.2.2.2.2.2.2.2.2.2.1 m.2.2.2.2.2.2.2.2.2.2.2.1 m.2.2.2.2.2.2.2.2.2.2.2.2.1 m.2.2.2.2.2.2.2.2.2.2.2.2.2.1 m.2.2.2.2.2.2.2.2.2.2.2.2.2.2.1 m.2.2.2.2.2.2.2.2.2.2.2.2.2.2.2.1=some (m.1,m.2.1,m.2.2.1,m.2.2.2.1,m.2.2.2.2.1,m.2.2.2.2.2.1,m.2.2.2.2.2.2.1,m.2.2.2.2.2.2.2.1,m.2.2.2.2.2.2.2.2.1,v,m.2.2.2.2.2.2.2.2.2.2.1,m.2.2.2.2.2.2.2.2.2.2.2.1,m.2.2.2.2.2.2.2.2.2.2.2.2.1,m.2.2.2.2.2.2.2.2.2.2.2.2.2.1,m.2.2.2.2.2.2.2.2.2.2.2.2.2.2.1,m.2.2.2.2.2.2.2.2.2.2.2.2.2.2.2.1,jb m.2.2.2.1 m.2.2.2.2.2.2.2.2.2.1 k,())∧v=m.2.2.2.2.2.2.2.2.2.1+((k:Nat):Int)∧
  (uC m=false→k=0)∧(uC m=true→v≤((dB m.2.2.2.1:Nat):Int)∧(∀j,j<k→¬Bg m.2.2.2.1 m.2.2.2.2.2.2.2.2.1 (m.2.2.2.2.2.2.2.2.2.1+((j+1:Nat):Int)))∧(v<((dB m.2.2.2.1:Nat):Int)→Bg m.2.2.2.1 m.2.2.2.2.2.2.2.2.1 (m.2.2.2.2.2.2.2.2.2.1+((k+1:Nat):Int)))):=by
 obtain ⟨k1,k2,k3⟩:=tH m h0;obtain ⟨p1,p2⟩:=nG m.1 m.2.1 m.2.2.1 m.2.2.2.1 m.2.2.2.2.1 m.2.2.2.2.2.1 m.2.2.2.2.2.2.1 m.2.2.2.2.2.2.2.1 m.2.2.2.2.2.2.2.2.1 m.2.2.2.2.2.2.2.2.2.1 m.2.2.2.2.2.2.2.2.2.2.1 m.2.2.2.2.2.2.2.2.2.2.2.1 m.2.2.2.2.2.2.2.2.2.2.2.2.1 m.2.2.2.2.2.2.2.2.2.2.2.2.2.1 m.2.2.2.2.2.2.2.2.2.2.2.2.2.2.1 m.2.2.2.2.2.2.2.2.2.2.2.2.2.2.2.1 h0;unfold nT pF;delta db;simp only [k1,k2,p1,p2,Option.bind_some]
 cases hb:uC m
 ·exact ⟨0,m.2.2.2.2.2.2.2.2.2.1,rfl,rfl,by omega,(fun _=>rfl),(fun h=>by cases h)⟩
 have hm:=k3.1 hb;have Xy:=dv m.2.2.2.1 hm.items;have hl:m.2.2.2.1.length≤1048576:=by omega
 obtain ⟨a1,a2,a3⟩:=zu m.2.2.2.1 hl;have hh:=hm.heard;generalize hn:dB m.2.2.2.1=n at a1 a2 a3 hh;have avT:n≤60:=Nat.le_trans a3.1 Xy.1;obtain ⟨e,f,g1,g2,k,v,g3,g4,g5,g6,g7,g8⟩:∃e f,aI qt (m.1,m.2.1,m.2.2.1,m.2.2.2.1,m.2.2.2.2.1,m.2.2.2.2.2.1,m.2.2.2.2.2.2.1,m.2.2.2.2.2.2.2.1,m.2.2.2.2.2.2.2.2.1,m.2.2.2.2.2.2.2.2.2.1,m.2.2.2.2.2.2.2.2.2.2.1,m.2.2.2.2.2.2.2.2.2.2.2.1,m.2.2.2.2.2.2.2.2.2.2.2.2.1,m.2.2.2.2.2.2.2.2.2.2.2.2.2.1,m.2.2.2.2.2.2.2.2.2.2.2.2.2.2.1,m.2.2.2.2.2.2.2.2.2.2.2.2.2.2.2.1,(0:Int),(0:Int),[],[],[],[],(0:Int),(0:Int),(0:Int),(0:Int),(0:Int),(0:Int),(0:Int),(0:Int),(0:Int),[],m.1,m.2.1,m.2.2.1,m.2.2.2.1,m.2.2.2.2.1,m.2.2.2.2.2.1,m.2.2.2.2.2.2.1,m.2.2.2.2.2.2.2.1,m.2.2.2.2.2.2.2.2.1,m.2.2.2.2.2.2.2.2.2.1,m.2.2.2.2.2.2.2.2.2.2.1,m.2.2.2.2.2.2.2.2.2.2.2.1,m.2.2.2.2.2.2.2.2.2.2.2.2.1,m.2.2.2.2.2.2.2.2.2.2.2.2.2.1,m.2.2.2.2.2.2.2.2.2.2.2.2.2.2.1,m.2.2.2.2.2.2.2.2.2.2.2.2.2.2.2.1,[],((n:Nat):Int),())=some e∧aI qF (m.1,m.2.1,m.2.2.1,m.2.2.2.1,m.2.2.2.2.1,m.2.2.2.2.2.1,m.2.2.2.2.2.2.1,m.2.2.2.2.2.2.2.1,m.2.2.2.2.2.2.2.2.1,m.2.2.2.2.2.2.2.2.2.1,m.2.2.2.2.2.2.2.2.2.2.1,m.2.2.2.2.2.2.2.2.2.2.2.1,m.2.2.2.2.2.2.2.2.2.2.2.2.1,m.2.2.2.2.2.2.2.2.2.2.2.2.2.1,m.2.2.2.2.2.2.2.2.2.2.2.2.2.2.1,m.2.2.2.2.2.2.2.2.2.2.2.2.2.2.2.1,(0:Int),(0:Int),[],[],[],[],(0:Int),(0:Int),(0:Int),(0:Int),(0:Int),(0:Int),(0:Int),(0:Int),(0:Int),[],m.1,m.2.1,m.2.2.1,m.2.2.2.1,m.2.2.2.2.1,m.2.2.2.2.2.1,m.2.2.2.2.2.2.1,m.2.2.2.2.2.2.2.1,m.2.2.2.2.2.2.2.2.1,m.2.2.2.2.2.2.2.2.2.1,m.2.2.2.2.2.2.2.2.2.2.1,m.2.2.2.2.2.2.2.2.2.2.2.1,m.2.2.2.2.2.2.2.2.2.2.2.2.1,m.2.2.2.2.2.2.2.2.2.2.2.2.2.1,m.2.2.2.2.2.2.2.2.2.2.2.2.2.2.1,m.2.2.2.2.2.2.2.2.2.2.2.2.2.2.2.1,[],())=some f∧
   ∃(k:Nat) (v:Int),(e=.inl ((0:Int),(0:Int),[],[],[],[],(0:Int),(0:Int),(0:Int),(0:Int),(0:Int),(0:Int),(0:Int),(0:Int),(0:Int),[],m.1,m.2.1,m.2.2.1,m.2.2.2.1,m.2.2.2.2.1,m.2.2.2.2.2.1,m.2.2.2.2.2.2.1,m.2.2.2.2.2.2.2.1,m.2.2.2.2.2.2.2.2.1,v,m.2.2.2.2.2.2.2.2.2.2.1,m.2.2.2.2.2.2.2.2.2.2.2.1,m.2.2.2.2.2.2.2.2.2.2.2.2.1,m.2.2.2.2.2.2.2.2.2.2.2.2.2.1,m.2.2.2.2.2.2.2.2.2.2.2.2.2.2.1,m.2.2.2.2.2.2.2.2.2.2.2.2.2.2.2.1,jb m.2.2.2.1 m.2.2.2.2.2.2.2.2.2.1 k,())∨e=.inr (m.1,m.2.1,m.2.2.1,m.2.2.2.1,m.2.2.2.2.1,m.2.2.2.2.2.1,m.2.2.2.2.2.2.1,m.2.2.2.2.2.2.2.1,m.2.2.2.2.2.2.2.2.1,v,m.2.2.2.2.2.2.2.2.2.2.1,m.2.2.2.2.2.2.2.2.2.2.2.1,m.2.2.2.2.2.2.2.2.2.2.2.2.1,m.2.2.2.2.2.2.2.2.2.2.2.2.2.1,m.2.2.2.2.2.2.2.2.2.2.2.2.2.2.1,m.2.2.2.2.2.2.2.2.2.2.2.2.2.2.2.1,jb m.2.2.2.1 m.2.2.2.2.2.2.2.2.2.1 k,()))∧f=.inl ((0:Int),(0:Int),[],[],[],[],(0:Int),(0:Int),(0:Int),(0:Int),(0:Int),(0:Int),(0:Int),(0:Int),(0:Int),[],m.1,m.2.1,m.2.2.1,m.2.2.2.1,m.2.2.2.2.1,m.2.2.2.2.2.1,m.2.2.2.2.2.2.1,m.2.2.2.2.2.2.2.1,m.2.2.2.2.2.2.2.2.1,v,m.2.2.2.2.2.2.2.2.2.2.1,m.2.2.2.2.2.2.2.2.2.2.2.1,m.2.2.2.2.2.2.2.2.2.2.2.2.1,m.2.2.2.2.2.2.2.2.2.2.2.2.2.1,m.2.2.2.2.2.2.2.2.2.2.2.2.2.2.1,m.2.2.2.2.2.2.2.2.2.2.2.2.2.2.2.1,jb m.2.2.2.1 m.2.2.2.2.2.2.2.2.2.1 k,())∧v=m.2.2.2.2.2.2.2.2.2.1+((k:Nat):Int)∧v≤((n:Nat):Int)∧
    (∀j,j<k→¬Bg m.2.2.2.1 m.2.2.2.2.2.2.2.2.1 (m.2.2.2.2.2.2.2.2.2.1+((j+1:Nat):Int)))∧(v<((n:Nat):Int)→Bg m.2.2.2.1 m.2.2.2.2.2.2.2.2.1 (m.2.2.2.2.2.2.2.2.2.1+((k+1:Nat):Int))):=by
  refine pW 60 (fun k x y=>∃v:Int,x=(m.1,m.2.1,m.2.2.1,m.2.2.2.1,m.2.2.2.2.1,m.2.2.2.2.2.1,m.2.2.2.2.2.2.1,m.2.2.2.2.2.2.2.1,m.2.2.2.2.2.2.2.2.1,m.2.2.2.2.2.2.2.2.2.1,m.2.2.2.2.2.2.2.2.2.2.1,m.2.2.2.2.2.2.2.2.2.2.2.1,m.2.2.2.2.2.2.2.2.2.2.2.2.1,m.2.2.2.2.2.2.2.2.2.2.2.2.2.1,m.2.2.2.2.2.2.2.2.2.2.2.2.2.2.1,m.2.2.2.2.2.2.2.2.2.2.2.2.2.2.2.1,(0:Int),(0:Int),[],[],[],[],(0:Int),(0:Int),(0:Int),(0:Int),(0:Int),(0:Int),(0:Int),(0:Int),(0:Int),[],m.1,m.2.1,m.2.2.1,m.2.2.2.1,m.2.2.2.2.1,m.2.2.2.2.2.1,m.2.2.2.2.2.2.1,m.2.2.2.2.2.2.2.1,m.2.2.2.2.2.2.2.2.1,v,m.2.2.2.2.2.2.2.2.2.2.1,m.2.2.2.2.2.2.2.2.2.2.2.1,m.2.2.2.2.2.2.2.2.2.2.2.2.1,m.2.2.2.2.2.2.2.2.2.2.2.2.2.1,m.2.2.2.2.2.2.2.2.2.2.2.2.2.2.1,m.2.2.2.2.2.2.2.2.2.2.2.2.2.2.2.1,jb m.2.2.2.1 m.2.2.2.2.2.2.2.2.2.1 k,((n:Nat):Int),())∧y=(m.1,m.2.1,m.2.2.1,m.2.2.2.1,m.2.2.2.2.1,m.2.2.2.2.2.1,m.2.2.2.2.2.2.1,m.2.2.2.2.2.2.2.1,m.2.2.2.2.2.2.2.2.1,m.2.2.2.2.2.2.2.2.2.1,m.2.2.2.2.2.2.2.2.2.2.1,m.2.2.2.2.2.2.2.2.2.2.2.1,m.2.2.2.2.2.2.2.2.2.2.2.2.1,m.2.2.2.2.2.2.2.2.2.2.2.2.2.1,m.2.2.2.2.2.2.2.2.2.2.2.2.2.2.1,m.2.2.2.2.2.2.2.2.2.2.2.2.2.2.2.1,(0:Int),(0:Int),[],[],[],[],(0:Int),(0:Int),(0:Int),(0:Int),(0:Int),(0:Int),(0:Int),(0:Int),(0:Int),[],m.1,m.2.1,m.2.2.1,m.2.2.2.1,m.2.2.2.2.1,m.2.2.2.2.2.1,m.2.2.2.2.2.2.1,m.2.2.2.2.2.2.2.1,m.2.2.2.2.2.2.2.2.1,v,m.2.2.2.2.2.2.2.2.2.2.1,m.2.2.2.2.2.2.2.2.2.2.2.1,m.2.2.2.2.2.2.2.2.2.2.2.2.1,m.2.2.2.2.2.2.2.2.2.2.2.2.2.1,m.2.2.2.2.2.2.2.2.2.2.2.2.2.2.1,m.2.2.2.2.2.2.2.2.2.2.2.2.2.2.2.1,jb m.2.2.2.1 m.2.2.2.2.2.2.2.2.2.1 k,())∧v=m.2.2.2.2.2.2.2.2.2.1+((k:Nat):Int)∧v≤((n:Nat):Int)∧∀j,j<k→¬Bg m.2.2.2.1 m.2.2.2.2.2.2.2.2.1 (m.2.2.2.2.2.2.2.2.2.1+((j+1:Nat):Int))) _ ?_ ⟨m.2.2.2.2.2.2.2.2.2.1,rfl,rfl,by omega,hh.2,fun j h=>by omega⟩
  rintro k x y hk ⟨v,rfl,rfl,q1,q2,q3⟩
  by_cases dS:v<((n:Nat):Int)
  ·have hw:IntKind.i64.wrap (v+(1:Int))=m.2.2.2.2.2.2.2.2.2.1+((k+1:Nat):Int):=by rw [dH]<;>omega
   have hbl:Nat.ble (((jb m.2.2.2.1 m.2.2.2.2.2.2.2.2.2.1 k).length+1)*40) lim=true:=aT (by rw [zB];unfold lim;omega);have more:¬Bg m.2.2.2.1 m.2.2.2.2.2.2.2.2.1 (m.2.2.2.2.2.2.2.2.2.1+((k+1:Nat):Int))→∀j,j<k+1→¬Bg m.2.2.2.1 m.2.2.2.2.2.2.2.2.1 (m.2.2.2.2.2.2.2.2.2.1+((j+1:Nat):Int)):=fun hnw j hj=>by
    by_cases e:j<k
    ·exact q3 j e
    ·have:j=k:=by omega
     subst this;exact hnw
   simp only [qt,az,yy,aA,qF,az,zh,aA,ak dS,a2,hw,wJ m.2.2.2.1 _ hl,wK m.2.2.2.1 _ hl,Option.bind_some,cond_true,hbl]
   by_cases c1:(qK (fk m.2.2.2.1 (m.2.2.2.2.2.2.2.2.2.1+((k+1:Nat):Int)))).2.2.1=2
   ·rw [ak c1]
    by_cases c2:m.2.2.2.2.2.2.2.2.1<(qK (fk m.2.2.2.1 (m.2.2.2.2.2.2.2.2.2.1+((k+1:Nat):Int)))).1
    ·rw [ak c2];exact .inl ⟨_,_,rfl,rfl,k,v,.inr rfl,rfl,q1,q2,q3,fun _=>⟨c1,c2⟩⟩
    ·rw [aq c2];exact .inr ⟨by omega,_,_,rfl,rfl,m.2.2.2.2.2.2.2.2.2.1+((k+1:Nat):Int),by rw [wM];rfl,by rw [wM];rfl,rfl,by omega,more fun h=>c2 h.2⟩
   ·rw [aq c1];exact .inr ⟨by omega,_,_,rfl,rfl,m.2.2.2.2.2.2.2.2.2.1+((k+1:Nat):Int),by rw [wM];rfl,by rw [wM];rfl,rfl,by omega,more fun h=>c1 h.1⟩
  ·simp only [qt,az,yy,aA,qF,az,zh,aA,aq dS,a2,Option.bind_some,cond_false];exact .inl ⟨_,_,rfl,rfl,k,v,.inl rfl,rfl,q1,q2,q3,fun h=>absurd h dS⟩
 simp only [a1,Option.bind_some,Bool.not_true,cond_false];rw [g1,g2,g4];refine ⟨k,v,?_,rfl,g5,(fun h=>by cases h),(fun _=>⟨by first | exact g6 | (rw [hn];exact g6),g7,fun h=>g8 (by first | exact h | (rw [hn] at h;exact h))⟩)⟩;rcases g3 with rfl | rfl
 ·rfl
 ·rfl
end Go.TM
set_option linter.unusedSimpArgs false
set_option linter.unusedVariables false
namespace Go.TM
open Go
noncomputable def cw (m:iA):iA×aW:=match nT m.1 m.2.1 m.2.2.1 m.2.2.2.1 m.2.2.2.2.1 m.2.2.2.2.2.1 m.2.2.2.2.2.2.1 m.2.2.2.2.2.2.2.1 m.2.2.2.2.2.2.2.2.1 m.2.2.2.2.2.2.2.2.2.1 m.2.2.2.2.2.2.2.2.2.2.1 m.2.2.2.2.2.2.2.2.2.2.2.1 m.2.2.2.2.2.2.2.2.2.2.2.2.1 m.2.2.2.2.2.2.2.2.2.2.2.2.2.1 m.2.2.2.2.2.2.2.2.2.2.2.2.2.2.1 m.2.2.2.2.2.2.2.2.2.2.2.2.2.2.2.1 with
 |some x=>((x.1,x.2.1,x.2.2.1,x.2.2.2.1,x.2.2.2.2.1,x.2.2.2.2.2.1,x.2.2.2.2.2.2.1,x.2.2.2.2.2.2.2.1,x.2.2.2.2.2.2.2.2.1,x.2.2.2.2.2.2.2.2.2.1,x.2.2.2.2.2.2.2.2.2.2.1,x.2.2.2.2.2.2.2.2.2.2.2.1,x.2.2.2.2.2.2.2.2.2.2.2.2.1,x.2.2.2.2.2.2.2.2.2.2.2.2.2.1,x.2.2.2.2.2.2.2.2.2.2.2.2.2.2.1,x.2.2.2.2.2.2.2.2.2.2.2.2.2.2.2.1,()),x.2.2.2.2.2.2.2.2.2.2.2.2.2.2.2.2.1)
 |none=>(m,[])
theorem Rg (m:iA) (h0:ma m≤1048576):∃(k:Nat) (v:Int),cw m=((m.1,m.2.1,m.2.2.1,m.2.2.2.1,m.2.2.2.2.1,m.2.2.2.2.2.1,m.2.2.2.2.2.2.1,m.2.2.2.2.2.2.2.1,m.2.2.2.2.2.2.2.2.1,v,m.2.2.2.2.2.2.2.2.2.2.1,m.2.2.2.2.2.2.2.2.2.2.2.1,m.2.2.2.2.2.2.2.2.2.2.2.2.1,m.2.2.2.2.2.2.2.2.2.2.2.2.2.1,m.2.2.2.2.2.2.2.2.2.2.2.2.2.2.1,m.2.2.2.2.2.2.2.2.2.2.2.2.2.2.2.1,()),jb m.2.2.2.1 m.2.2.2.2.2.2.2.2.2.1 k)∧nT m.1 m.2.1 m.2.2.1 m.2.2.2.1 m.2.2.2.2.1 m.2.2.2.2.2.1 m.2.2.2.2.2.2.1 m.2.2.2.2.2.2.2.1 m.2.2.2.2.2.2.2.2.1 m.2.2.2.2.2.2.2.2.2.1 m.2.2.2.2.2.2.2.2.2.2.1 m.2.2.2.2.2.2.2.2.2.2.2.1 m.2.2.2.2.2.2.2.2.2.2.2.2.1 m.2.2.2.2.2.2.2.2.2.2.2.2.2.1 m.2.2.2.2.2.2.2.2.2.2.2.2.2.2.1 m.2.2.2.2.2.2.2.2.2.2.2.2.2.2.2.1=some (m.1,m.2.1,m.2.2.1,m.2.2.2.1,m.2.2.2.2.1,m.2.2.2.2.2.1,m.2.2.2.2.2.2.1,m.2.2.2.2.2.2.2.1,m.2.2.2.2.2.2.2.2.1,v,m.2.2.2.2.2.2.2.2.2.2.1,m.2.2.2.2.2.2.2.2.2.2.2.1,m.2.2.2.2.2.2.2.2.2.2.2.2.1,m.2.2.2.2.2.2.2.2.2.2.2.2.2.1,m.2.2.2.2.2.2.2.2.2.2.2.2.2.2.1,m.2.2.2.2.2.2.2.2.2.2.2.2.2.2.2.1,jb m.2.2.2.1 m.2.2.2.2.2.2.2.2.2.1 k,())∧pF m.1 m.2.1 m.2.2.1 m.2.2.2.1 m.2.2.2.2.1 m.2.2.2.2.2.1 m.2.2.2.2.2.2.1 m.2.2.2.2.2.2.2.1 m.2.2.2.2.2.2.2.2.1 m.2.2.2.2.2.2.2.2.2.1 m.2.2.2.2.2.2.2.2.2.2.1 m.2.2.2.2.2.2.2.2.2.2.2.1 m.2.2.2.2.2.2.2.2.2.2.2.2.1 m.2.2.2.2.2.2.2.2.2.2.2.2.2.1 m.2.2.2.2.2.2.2.2.2.2.2.2.2.2.1 m.2.2.2.2.2.2.2.2.2.2.2.2.2.2.2.1=some (m.1,m.2.1,m.2.2.1,m.2.2.2.1,m.2.2.2.2.1,m.2.2.2.2.2.1,m.2.2.2.2.2.2.1,m.2.2.2.2.2.2.2.1,m.2.2.2.2.2.2.2.2.1,v,m.2.2.2.2.2.2.2.2.2.2.1,m.2.2.2.2.2.2.2.2.2.2.2.1,m.2.2.2.2.2.2.2.2.2.2.2.2.1,m.2.2.2.2.2.2.2.2.2.2.2.2.2.1,m.2.2.2.2.2.2.2.2.2.2.2.2.2.2.1,m.2.2.2.2.2.2.2.2.2.2.2.2.2.2.2.1,jb m.2.2.2.1 m.2.2.2.2.2.2.2.2.2.1 k,())∧v=m.2.2.2.2.2.2.2.2.2.1+((k:Nat):Int)∧
  (uC m=false→k=0)∧(uC m=true→v≤((dB m.2.2.2.1:Nat):Int)∧(∀j,j<k→¬Bg m.2.2.2.1 m.2.2.2.2.2.2.2.2.1 (m.2.2.2.2.2.2.2.2.2.1+((j+1:Nat):Int)))∧(v<((dB m.2.2.2.1:Nat):Int)→Bg m.2.2.2.1 m.2.2.2.2.2.2.2.2.1 (m.2.2.2.2.2.2.2.2.2.1+((k+1:Nat):Int)))):=by
 obtain ⟨k,v,h1,h2,h3⟩:=N2 m h0;exact ⟨k,v,by unfold cw;rw [h1],h1,h2,h3⟩
theorem TB (m:iA) (h0:ma m≤1048576):nT m.1 m.2.1 m.2.2.1 m.2.2.2.1 m.2.2.2.2.1 m.2.2.2.2.2.1 m.2.2.2.2.2.2.1 m.2.2.2.2.2.2.2.1 m.2.2.2.2.2.2.2.2.1 m.2.2.2.2.2.2.2.2.2.1 m.2.2.2.2.2.2.2.2.2.2.1 m.2.2.2.2.2.2.2.2.2.2.2.1 m.2.2.2.2.2.2.2.2.2.2.2.2.1 m.2.2.2.2.2.2.2.2.2.2.2.2.2.1 m.2.2.2.2.2.2.2.2.2.2.2.2.2.2.1 m.2.2.2.2.2.2.2.2.2.2.2.2.2.2.2.1=some ((cw m).1.1,(cw m).1.2.1,(cw m).1.2.2.1,(cw m).1.2.2.2.1,(cw m).1.2.2.2.2.1,(cw m).1.2.2.2.2.2.1,(cw m).1.2.2.2.2.2.2.1,(cw m).1.2.2.2.2.2.2.2.1,(cw m).1.2.2.2.2.2.2.2.2.1,(cw m).1.2.2.2.2.2.2.2.2.2.1,(cw m).1.2.2.2.2.2.2.2.2.2.2.1,(cw m).1.2.2.2.2.2.2.2.2.2.2.2.1,(cw m).1.2.2.2.2.2.2.2.2.2.2.2.2.1,(cw m).1.2.2.2.2.2.2.2.2.2.2.2.2.2.1,(cw m).1.2.2.2.2.2.2.2.2.2.2.2.2.2.2.1,(cw m).1.2.2.2.2.2.2.2.2.2.2.2.2.2.2.2.1,(cw m).2,())∧pF m.1 m.2.1 m.2.2.1 m.2.2.2.1 m.2.2.2.2.1 m.2.2.2.2.2.1 m.2.2.2.2.2.2.1 m.2.2.2.2.2.2.2.1 m.2.2.2.2.2.2.2.2.1 m.2.2.2.2.2.2.2.2.2.1 m.2.2.2.2.2.2.2.2.2.2.1 m.2.2.2.2.2.2.2.2.2.2.2.1 m.2.2.2.2.2.2.2.2.2.2.2.2.1 m.2.2.2.2.2.2.2.2.2.2.2.2.2.1 m.2.2.2.2.2.2.2.2.2.2.2.2.2.2.1 m.2.2.2.2.2.2.2.2.2.2.2.2.2.2.2.1=some ((cw m).1.1,(cw m).1.2.1,(cw m).1.2.2.1,(cw m).1.2.2.2.1,(cw m).1.2.2.2.2.1,(cw m).1.2.2.2.2.2.1,(cw m).1.2.2.2.2.2.2.1,(cw m).1.2.2.2.2.2.2.2.1,(cw m).1.2.2.2.2.2.2.2.2.1,(cw m).1.2.2.2.2.2.2.2.2.2.1,(cw m).1.2.2.2.2.2.2.2.2.2.2.1,(cw m).1.2.2.2.2.2.2.2.2.2.2.2.1,(cw m).1.2.2.2.2.2.2.2.2.2.2.2.2.1,(cw m).1.2.2.2.2.2.2.2.2.2.2.2.2.2.1,(cw m).1.2.2.2.2.2.2.2.2.2.2.2.2.2.2.1,(cw m).1.2.2.2.2.2.2.2.2.2.2.2.2.2.2.2.1,(cw m).2,()):=by
 obtain ⟨k,v,h1,h2,h3,_⟩:=Rg m h0;rw [h1];exact ⟨h2,h3⟩
theorem TC (m:iA) (h0:ma m≤1048576):ma (cw m).1=ma m∧(cw m).2.length≤60∧wl dD (cw m).2≤3600:=by
 obtain ⟨k,v,h1,_,_,h4,h5,h6⟩:=Rg m h0;rw [h1];refine ⟨rfl,?_⟩
 cases hb:uC m
 ·rw [h5 hb];exact ⟨Nat.zero_le _,Nat.zero_le _⟩
 ·have hm:=(tH m h0).2.2.1 hb;have Xy:=dv _ hm.items;have ha:=(zu m.2.2.2.1 (by omega)).2.2.1;have hh:=hm.heard;have:=(h6 hb).1;have hk:k≤60:=by omega
  have:=N1 (h:=m.2.2.2.2.2.2.2.2.2.1) (k:=k) hm.items;refine ⟨?_,?_⟩
  ·show (jb m.2.2.2.1 m.2.2.2.2.2.2.2.2.2.1 k).length≤60;rw [zB];exact hk
  ·show wl dD (jb m.2.2.2.1 m.2.2.2.2.2.2.2.2.2.1 k)≤3600;omega
def gi (c:Int) (ms:eA) (l:aW):List xQ:=l.map fun x=>(1,c,ms,x.1,x.2.1,x.2.2.1,x.2.2.2.1,[],())
theorem n7 (c:Int) (ms:eA) (l:aW):(gi c ms l).length=l.length:=by simp [gi]
theorem Rh (c:Int) (ms:eA):(l:aW)→wl bu (gi c ms l)=l.length*(ms.length+wl jK ms)+wl dD l
 | []=>by simp [gi,Lx]
 |x::l=>by
  have ih:=Rh c ms l;have e:gi c ms (x::l)=(1,c,ms,x.1,x.2.1,x.2.2.1,x.2.2.2.1,[],())::gi c ms l:=rfl;rw [e,sb,ih,sb,List.length_cons,Nat.add_mul];have e1:bu ((1,c,ms,x.1,x.2.1,x.2.2.1,x.2.2.2.1,[],()):xQ)=(ms.length+wl jK ms)+ByteArray.size x.2.2.2.1+0:=rfl;have e2:dD x=ByteArray.size x.2.2.2.1:=rfl;omega
theorem mH (c:Int) (xs:eA) (h:xs.length≤1048576):aK c xs=some (c,xs,()):=by
 unfold aK;rw [aT (show (0+xs.length)*8≤lim by unfold lim;omega)];rfl
def sq (d:bZ) (l:aW):bZ:=(d.1,d.2.1,d.2.2.1,d.2.2.2.1,d.2.2.2.2.1,d.2.2.2.2.2.1,d.2.2.2.2.2.2.1,d.2.2.2.2.2.2.2.1,d.2.2.2.2.2.2.2.2.1,d.2.2.2.2.2.2.2.2.2.1,d.2.2.2.2.2.2.2.2.2.2.1,d.2.2.2.2.2.2.2.2.2.2.2.1,d.2.2.2.2.2.2.2.2.2.2.2.2.1,d.2.2.2.2.2.2.2.2.2.2.2.2.2.1,d.2.2.2.2.2.2.2.2.2.2.2.2.2.2.1,d.2.2.2.2.2.2.2.2.2.2.2.2.2.2.2.1,d.2.2.2.2.2.2.2.2.2.2.2.2.2.2.2.2.1,d.2.2.2.2.2.2.2.2.2.2.2.2.2.2.2.2.2.1,d.2.2.2.2.2.2.2.2.2.2.2.2.2.2.2.2.2.2.1,d.2.2.2.2.2.2.2.2.2.2.2.2.2.2.2.2.2.2.2.1,d.2.2.2.2.2.2.2.2.2.2.2.2.2.2.2.2.2.2.2.2.1,d.2.2.2.2.2.2.2.2.2.2.2.2.2.2.2.2.2.2.2.2.2.1,d.2.2.2.2.2.2.2.2.2.2.2.2.2.2.2.2.2.2.2.2.2.2.1,d.2.2.2.2.2.2.2.2.2.2.2.2.2.2.2.2.2.2.2.2.2.2.2.1++gi d.2.2.2.1 d.2.2.2.2.1 l,())
theorem D6 {c:Int} {ms:eA} {l:aW} {lg:List xQ} {k:Nat} (hk:k<l.length):lg++gi c ms (l.take (k+1))=(lg++gi c ms (l.take k))++[(1,c,ms,l[k].1,l[k].2.1,l[k].2.2.1,l[k].2.2.2.1,[],())]:=by
 rw [List.take_succ_eq_append_getElem hk,List.append_assoc]
 congr 1
 unfold gi;rw [List.map_append];rfl
theorem WT (d:bZ) (l:aW) (hr:d.2.2.2.2.1.length≤1048576) (hl:l.length≤1048576) (hg:d.2.2.2.2.2.2.2.2.2.2.2.2.2.2.2.2.2.2.2.2.2.2.2.1.length≤1048576):mr d.1 d.2.1 d.2.2.1 d.2.2.2.1 d.2.2.2.2.1 d.2.2.2.2.2.1 d.2.2.2.2.2.2.1 d.2.2.2.2.2.2.2.1 d.2.2.2.2.2.2.2.2.1 d.2.2.2.2.2.2.2.2.2.1 d.2.2.2.2.2.2.2.2.2.2.1 d.2.2.2.2.2.2.2.2.2.2.2.1 d.2.2.2.2.2.2.2.2.2.2.2.2.1 d.2.2.2.2.2.2.2.2.2.2.2.2.2.1 d.2.2.2.2.2.2.2.2.2.2.2.2.2.2.1 d.2.2.2.2.2.2.2.2.2.2.2.2.2.2.2.1 d.2.2.2.2.2.2.2.2.2.2.2.2.2.2.2.2.1 d.2.2.2.2.2.2.2.2.2.2.2.2.2.2.2.2.2.1 d.2.2.2.2.2.2.2.2.2.2.2.2.2.2.2.2.2.2.1 d.2.2.2.2.2.2.2.2.2.2.2.2.2.2.2.2.2.2.2.1 d.2.2.2.2.2.2.2.2.2.2.2.2.2.2.2.2.2.2.2.2.1 d.2.2.2.2.2.2.2.2.2.2.2.2.2.2.2.2.2.2.2.2.2.1 d.2.2.2.2.2.2.2.2.2.2.2.2.2.2.2.2.2.2.2.2.2.2.1 d.2.2.2.2.2.2.2.2.2.2.2.2.2.2.2.2.2.2.2.2.2.2.2.1 l=some (sq d l):=by
 have hl:=ca (round:=gZ) (e:=.inl (sq d l)) l.length (fun k=>(d.1,d.2.1,d.2.2.1,d.2.2.2.1,d.2.2.2.2.1,d.2.2.2.2.2.1,d.2.2.2.2.2.2.1,d.2.2.2.2.2.2.2.1,d.2.2.2.2.2.2.2.2.1,d.2.2.2.2.2.2.2.2.2.1,d.2.2.2.2.2.2.2.2.2.2.1,d.2.2.2.2.2.2.2.2.2.2.2.1,d.2.2.2.2.2.2.2.2.2.2.2.2.1,d.2.2.2.2.2.2.2.2.2.2.2.2.2.1,d.2.2.2.2.2.2.2.2.2.2.2.2.2.2.1,d.2.2.2.2.2.2.2.2.2.2.2.2.2.2.2.1,d.2.2.2.2.2.2.2.2.2.2.2.2.2.2.2.2.1,d.2.2.2.2.2.2.2.2.2.2.2.2.2.2.2.2.2.1,d.2.2.2.2.2.2.2.2.2.2.2.2.2.2.2.2.2.2.1,d.2.2.2.2.2.2.2.2.2.2.2.2.2.2.2.2.2.2.2.1,d.2.2.2.2.2.2.2.2.2.2.2.2.2.2.2.2.2.2.2.2.1,d.2.2.2.2.2.2.2.2.2.2.2.2.2.2.2.2.2.2.2.2.2.1,d.2.2.2.2.2.2.2.2.2.2.2.2.2.2.2.2.2.2.2.2.2.2.1,d.2.2.2.2.2.2.2.2.2.2.2.2.2.2.2.2.2.2.2.2.2.2.2.1++gi d.2.2.2.1 d.2.2.2.2.1 (l.take k),l,((List.length l:Nat):Int),((k:Nat):Int),())) (by
  simp only [gZ,az,px,aA,aM,cond_false,List.take_length,sq]) (fun k hk=>by
  have hlen:(d.2.2.2.2.2.2.2.2.2.2.2.2.2.2.2.2.2.2.2.2.2.2.2.1++gi d.2.2.2.1 d.2.2.2.2.1 (l.take k)).length≤1048576+1048576:=by
   rw [List.length_append,n7,List.length_take];omega
  simp only [gZ,az,px,aA,aD hk,ax,cond_true,aF,List.getElem?_eq_getElem hk,Option.bind_some,oT _ _ hr,aT (show ((d.2.2.2.2.2.2.2.2.2.2.2.2.2.2.2.2.2.2.2.2.2.2.2.1++gi d.2.2.2.1 d.2.2.2.2.1 (l.take k)).length+1)*104≤lim by unfold lim;omega),aN (show k<4611686018427387904 by omega)];rw [D6 hk])
 have hl:aI gZ (d.1,d.2.1,d.2.2.1,d.2.2.2.1,d.2.2.2.2.1,d.2.2.2.2.2.1,d.2.2.2.2.2.2.1,d.2.2.2.2.2.2.2.1,d.2.2.2.2.2.2.2.2.1,d.2.2.2.2.2.2.2.2.2.1,d.2.2.2.2.2.2.2.2.2.2.1,d.2.2.2.2.2.2.2.2.2.2.2.1,d.2.2.2.2.2.2.2.2.2.2.2.2.1,d.2.2.2.2.2.2.2.2.2.2.2.2.2.1,d.2.2.2.2.2.2.2.2.2.2.2.2.2.2.1,d.2.2.2.2.2.2.2.2.2.2.2.2.2.2.2.1,d.2.2.2.2.2.2.2.2.2.2.2.2.2.2.2.2.1,d.2.2.2.2.2.2.2.2.2.2.2.2.2.2.2.2.2.1,d.2.2.2.2.2.2.2.2.2.2.2.2.2.2.2.2.2.2.1,d.2.2.2.2.2.2.2.2.2.2.2.2.2.2.2.2.2.2.2.1,d.2.2.2.2.2.2.2.2.2.2.2.2.2.2.2.2.2.2.2.2.1,d.2.2.2.2.2.2.2.2.2.2.2.2.2.2.2.2.2.2.2.2.2.1,d.2.2.2.2.2.2.2.2.2.2.2.2.2.2.2.2.2.2.2.2.2.2.1,d.2.2.2.2.2.2.2.2.2.2.2.2.2.2.2.2.2.2.2.2.2.2.2.1++[],l,((List.length l:Nat):Int),(0:Int),())=_:=hl;rw [List.append_nil] at hl;unfold mr;rw [hl];rfl
theorem WU (d:bZ) (m:iA) (l:aW) (hr:m.2.2.1.length≤1048576) (hl:l.length≤1048576) (hg:d.2.2.2.2.2.2.2.2.2.2.2.2.2.2.2.2.2.2.2.2.2.2.2.1.length≤1048576):aI gH (d.1,d.2.1,d.2.2.1,d.2.2.2.1,d.2.2.2.2.1,d.2.2.2.2.2.1,d.2.2.2.2.2.2.1,d.2.2.2.2.2.2.2.1,d.2.2.2.2.2.2.2.2.1,d.2.2.2.2.2.2.2.2.2.1,d.2.2.2.2.2.2.2.2.2.2.1,d.2.2.2.2.2.2.2.2.2.2.2.1,d.2.2.2.2.2.2.2.2.2.2.2.2.1,d.2.2.2.2.2.2.2.2.2.2.2.2.2.1,d.2.2.2.2.2.2.2.2.2.2.2.2.2.2.1,d.2.2.2.2.2.2.2.2.2.2.2.2.2.2.2.1,d.2.2.2.2.2.2.2.2.2.2.2.2.2.2.2.2.1,d.2.2.2.2.2.2.2.2.2.2.2.2.2.2.2.2.2.1,d.2.2.2.2.2.2.2.2.2.2.2.2.2.2.2.2.2.2.1,d.2.2.2.2.2.2.2.2.2.2.2.2.2.2.2.2.2.2.2.1,d.2.2.2.2.2.2.2.2.2.2.2.2.2.2.2.2.2.2.2.2.1,d.2.2.2.2.2.2.2.2.2.2.2.2.2.2.2.2.2.2.2.2.2.1,d.2.2.2.2.2.2.2.2.2.2.2.2.2.2.2.2.2.2.2.2.2.2.1,d.2.2.2.2.2.2.2.2.2.2.2.2.2.2.2.2.2.2.2.2.2.2.2.1,m.1,m.2.1,m.2.2.1,m.2.2.2.1,m.2.2.2.2.1,m.2.2.2.2.2.1,m.2.2.2.2.2.2.1,m.2.2.2.2.2.2.2.1,m.2.2.2.2.2.2.2.2.1,m.2.2.2.2.2.2.2.2.2.1,m.2.2.2.2.2.2.2.2.2.2.1,m.2.2.2.2.2.2.2.2.2.2.2.1,m.2.2.2.2.2.2.2.2.2.2.2.2.1,m.2.2.2.2.2.2.2.2.2.2.2.2.2.1,m.2.2.2.2.2.2.2.2.2.2.2.2.2.2.1,m.2.2.2.2.2.2.2.2.2.2.2.2.2.2.2.1,l,(0:Int),())=some (.inl (d.1,d.2.1,d.2.2.1,d.2.2.2.1,d.2.2.2.2.1,d.2.2.2.2.2.1,d.2.2.2.2.2.2.1,d.2.2.2.2.2.2.2.1,d.2.2.2.2.2.2.2.2.1,d.2.2.2.2.2.2.2.2.2.1,d.2.2.2.2.2.2.2.2.2.2.1,d.2.2.2.2.2.2.2.2.2.2.2.1,d.2.2.2.2.2.2.2.2.2.2.2.2.1,d.2.2.2.2.2.2.2.2.2.2.2.2.2.1,d.2.2.2.2.2.2.2.2.2.2.2.2.2.2.1,d.2.2.2.2.2.2.2.2.2.2.2.2.2.2.2.1,d.2.2.2.2.2.2.2.2.2.2.2.2.2.2.2.2.1,d.2.2.2.2.2.2.2.2.2.2.2.2.2.2.2.2.2.1,d.2.2.2.2.2.2.2.2.2.2.2.2.2.2.2.2.2.2.1,d.2.2.2.2.2.2.2.2.2.2.2.2.2.2.2.2.2.2.2.1,d.2.2.2.2.2.2.2.2.2.2.2.2.2.2.2.2.2.2.2.2.1,d.2.2.2.2.2.2.2.2.2.2.2.2.2.2.2.2.2.2.2.2.2.1,d.2.2.2.2.2.2.2.2.2.2.2.2.2.2.2.2.2.2.2.2.2.2.1,d.2.2.2.2.2.2.2.2.2.2.2.2.2.2.2.2.2.2.2.2.2.2.2.1++gi m.2.1 m.2.2.1 l,())):=by
 have hl:=ca (round:=gH) (e:=.inl (d.1,d.2.1,d.2.2.1,d.2.2.2.1,d.2.2.2.2.1,d.2.2.2.2.2.1,d.2.2.2.2.2.2.1,d.2.2.2.2.2.2.2.1,d.2.2.2.2.2.2.2.2.1,d.2.2.2.2.2.2.2.2.2.1,d.2.2.2.2.2.2.2.2.2.2.1,d.2.2.2.2.2.2.2.2.2.2.2.1,d.2.2.2.2.2.2.2.2.2.2.2.2.1,d.2.2.2.2.2.2.2.2.2.2.2.2.2.1,d.2.2.2.2.2.2.2.2.2.2.2.2.2.2.1,d.2.2.2.2.2.2.2.2.2.2.2.2.2.2.2.1,d.2.2.2.2.2.2.2.2.2.2.2.2.2.2.2.2.1,d.2.2.2.2.2.2.2.2.2.2.2.2.2.2.2.2.2.1,d.2.2.2.2.2.2.2.2.2.2.2.2.2.2.2.2.2.2.1,d.2.2.2.2.2.2.2.2.2.2.2.2.2.2.2.2.2.2.2.1,d.2.2.2.2.2.2.2.2.2.2.2.2.2.2.2.2.2.2.2.2.1,d.2.2.2.2.2.2.2.2.2.2.2.2.2.2.2.2.2.2.2.2.2.1,d.2.2.2.2.2.2.2.2.2.2.2.2.2.2.2.2.2.2.2.2.2.2.1,d.2.2.2.2.2.2.2.2.2.2.2.2.2.2.2.2.2.2.2.2.2.2.2.1++gi m.2.1 m.2.2.1 l,())) l.length (fun k=>(d.1,d.2.1,d.2.2.1,d.2.2.2.1,d.2.2.2.2.1,d.2.2.2.2.2.1,d.2.2.2.2.2.2.1,d.2.2.2.2.2.2.2.1,d.2.2.2.2.2.2.2.2.1,d.2.2.2.2.2.2.2.2.2.1,d.2.2.2.2.2.2.2.2.2.2.1,d.2.2.2.2.2.2.2.2.2.2.2.1,d.2.2.2.2.2.2.2.2.2.2.2.2.1,d.2.2.2.2.2.2.2.2.2.2.2.2.2.1,d.2.2.2.2.2.2.2.2.2.2.2.2.2.2.1,d.2.2.2.2.2.2.2.2.2.2.2.2.2.2.2.1,d.2.2.2.2.2.2.2.2.2.2.2.2.2.2.2.2.1,d.2.2.2.2.2.2.2.2.2.2.2.2.2.2.2.2.2.1,d.2.2.2.2.2.2.2.2.2.2.2.2.2.2.2.2.2.2.1,d.2.2.2.2.2.2.2.2.2.2.2.2.2.2.2.2.2.2.2.1,d.2.2.2.2.2.2.2.2.2.2.2.2.2.2.2.2.2.2.2.2.1,d.2.2.2.2.2.2.2.2.2.2.2.2.2.2.2.2.2.2.2.2.2.1,d.2.2.2.2.2.2.2.2.2.2.2.2.2.2.2.2.2.2.2.2.2.2.1,d.2.2.2.2.2.2.2.2.2.2.2.2.2.2.2.2.2.2.2.2.2.2.2.1++gi m.2.1 m.2.2.1 (l.take k),m.1,m.2.1,m.2.2.1,m.2.2.2.1,m.2.2.2.2.1,m.2.2.2.2.2.1,m.2.2.2.2.2.2.1,m.2.2.2.2.2.2.2.1,m.2.2.2.2.2.2.2.2.1,m.2.2.2.2.2.2.2.2.2.1,m.2.2.2.2.2.2.2.2.2.2.1,m.2.2.2.2.2.2.2.2.2.2.2.1,m.2.2.2.2.2.2.2.2.2.2.2.2.1,m.2.2.2.2.2.2.2.2.2.2.2.2.2.1,m.2.2.2.2.2.2.2.2.2.2.2.2.2.2.1,m.2.2.2.2.2.2.2.2.2.2.2.2.2.2.2.1,l,((k:Nat):Int),())) (by
  simp only [gH,ba,az,tc,aA,aM,cond_false,List.take_length]) (fun k hk=>by
  have hlen:(d.2.2.2.2.2.2.2.2.2.2.2.2.2.2.2.2.2.2.2.2.2.2.2.1++gi m.2.1 m.2.2.1 (l.take k)).length≤1048576+1048576:=by
   rw [List.length_append,n7,List.length_take];omega
  simp only [gH,ba,az,tc,aA,aD hk,ax,cond_true,aF,fW hk,List.getElem?_eq_getElem hk,Option.bind_some,mH _ _ hr,aT (show ((d.2.2.2.2.2.2.2.2.2.2.2.2.2.2.2.2.2.2.2.2.2.2.2.1++gi m.2.1 m.2.2.1 (l.take k)).length+1)*104≤lim by unfold lim;omega),aN (show k<4611686018427387904 by omega)];rw [D6 hk])
 have hl:aI gH (d.1,d.2.1,d.2.2.1,d.2.2.2.1,d.2.2.2.2.1,d.2.2.2.2.2.1,d.2.2.2.2.2.2.1,d.2.2.2.2.2.2.2.1,d.2.2.2.2.2.2.2.2.1,d.2.2.2.2.2.2.2.2.2.1,d.2.2.2.2.2.2.2.2.2.2.1,d.2.2.2.2.2.2.2.2.2.2.2.1,d.2.2.2.2.2.2.2.2.2.2.2.2.1,d.2.2.2.2.2.2.2.2.2.2.2.2.2.1,d.2.2.2.2.2.2.2.2.2.2.2.2.2.2.1,d.2.2.2.2.2.2.2.2.2.2.2.2.2.2.2.1,d.2.2.2.2.2.2.2.2.2.2.2.2.2.2.2.2.1,d.2.2.2.2.2.2.2.2.2.2.2.2.2.2.2.2.2.1,d.2.2.2.2.2.2.2.2.2.2.2.2.2.2.2.2.2.2.1,d.2.2.2.2.2.2.2.2.2.2.2.2.2.2.2.2.2.2.2.1,d.2.2.2.2.2.2.2.2.2.2.2.2.2.2.2.2.2.2.2.2.1,d.2.2.2.2.2.2.2.2.2.2.2.2.2.2.2.2.2.2.2.2.2.1,d.2.2.2.2.2.2.2.2.2.2.2.2.2.2.2.2.2.2.2.2.2.2.1,d.2.2.2.2.2.2.2.2.2.2.2.2.2.2.2.2.2.2.2.2.2.2.2.1++[],m.1,m.2.1,m.2.2.1,m.2.2.2.1,m.2.2.2.2.1,m.2.2.2.2.2.1,m.2.2.2.2.2.2.1,m.2.2.2.2.2.2.2.1,m.2.2.2.2.2.2.2.2.1,m.2.2.2.2.2.2.2.2.2.1,m.2.2.2.2.2.2.2.2.2.2.1,m.2.2.2.2.2.2.2.2.2.2.2.1,m.2.2.2.2.2.2.2.2.2.2.2.2.1,m.2.2.2.2.2.2.2.2.2.2.2.2.2.1,m.2.2.2.2.2.2.2.2.2.2.2.2.2.2.1,m.2.2.2.2.2.2.2.2.2.2.2.2.2.2.2.1,l,(0:Int),())=_:=hl;rw [List.append_nil] at hl;exact hl
noncomputable def rV (d:bZ):bZ:=sq (iV d (cw (aJ d)).1) (cw (aJ d)).2
theorem Ix (d:bZ) (h0:ma (aJ d)≤1048576) (hg:d.2.2.2.2.2.2.2.2.2.2.2.2.2.2.2.2.2.2.2.2.2.2.2.1.length≤1048576):kq d.1 d.2.1 d.2.2.1 d.2.2.2.1 d.2.2.2.2.1 d.2.2.2.2.2.1 d.2.2.2.2.2.2.1 d.2.2.2.2.2.2.2.1 d.2.2.2.2.2.2.2.2.1 d.2.2.2.2.2.2.2.2.2.1 d.2.2.2.2.2.2.2.2.2.2.1 d.2.2.2.2.2.2.2.2.2.2.2.1 d.2.2.2.2.2.2.2.2.2.2.2.2.1 d.2.2.2.2.2.2.2.2.2.2.2.2.2.1 d.2.2.2.2.2.2.2.2.2.2.2.2.2.2.1 d.2.2.2.2.2.2.2.2.2.2.2.2.2.2.2.1 d.2.2.2.2.2.2.2.2.2.2.2.2.2.2.2.2.1 d.2.2.2.2.2.2.2.2.2.2.2.2.2.2.2.2.2.1 d.2.2.2.2.2.2.2.2.2.2.2.2.2.2.2.2.2.2.1 d.2.2.2.2.2.2.2.2.2.2.2.2.2.2.2.2.2.2.2.1 d.2.2.2.2.2.2.2.2.2.2.2.2.2.2.2.2.2.2.2.2.1 d.2.2.2.2.2.2.2.2.2.2.2.2.2.2.2.2.2.2.2.2.2.1 d.2.2.2.2.2.2.2.2.2.2.2.2.2.2.2.2.2.2.2.2.2.2.1 d.2.2.2.2.2.2.2.2.2.2.2.2.2.2.2.2.2.2.2.2.2.2.2.1=some (rV d)∧ga d.1 d.2.1 d.2.2.1 d.2.2.2.1 d.2.2.2.2.1 d.2.2.2.2.2.1 d.2.2.2.2.2.2.1 d.2.2.2.2.2.2.2.1 d.2.2.2.2.2.2.2.2.1 d.2.2.2.2.2.2.2.2.2.1 d.2.2.2.2.2.2.2.2.2.2.1 d.2.2.2.2.2.2.2.2.2.2.2.1 d.2.2.2.2.2.2.2.2.2.2.2.2.1 d.2.2.2.2.2.2.2.2.2.2.2.2.2.1 d.2.2.2.2.2.2.2.2.2.2.2.2.2.2.1 d.2.2.2.2.2.2.2.2.2.2.2.2.2.2.2.1 d.2.2.2.2.2.2.2.2.2.2.2.2.2.2.2.2.1 d.2.2.2.2.2.2.2.2.2.2.2.2.2.2.2.2.2.1 d.2.2.2.2.2.2.2.2.2.2.2.2.2.2.2.2.2.2.1 d.2.2.2.2.2.2.2.2.2.2.2.2.2.2.2.2.2.2.2.1 d.2.2.2.2.2.2.2.2.2.2.2.2.2.2.2.2.2.2.2.2.1 d.2.2.2.2.2.2.2.2.2.2.2.2.2.2.2.2.2.2.2.2.2.1 d.2.2.2.2.2.2.2.2.2.2.2.2.2.2.2.2.2.2.2.2.2.2.1 d.2.2.2.2.2.2.2.2.2.2.2.2.2.2.2.2.2.2.2.2.2.2.2.1=some (rV d):=by
 obtain ⟨s1,s2⟩:=TB (aJ d) h0;obtain ⟨z1,z2,_⟩:=TC (aJ d) h0;have s1:nT d.2.2.1 d.2.2.2.1 d.2.2.2.2.1 d.2.2.2.2.2.1 d.2.2.2.2.2.2.1 d.2.2.2.2.2.2.2.1 d.2.2.2.2.2.2.2.2.1 d.2.2.2.2.2.2.2.2.2.1 d.2.2.2.2.2.2.2.2.2.2.1 d.2.2.2.2.2.2.2.2.2.2.2.1 d.2.2.2.2.2.2.2.2.2.2.2.2.1 d.2.2.2.2.2.2.2.2.2.2.2.2.2.1 d.2.2.2.2.2.2.2.2.2.2.2.2.2.2.1 d.2.2.2.2.2.2.2.2.2.2.2.2.2.2.2.1 d.2.2.2.2.2.2.2.2.2.2.2.2.2.2.2.2.1 d.2.2.2.2.2.2.2.2.2.2.2.2.2.2.2.2.2.1=some ((cw (aJ d)).1.1,(cw (aJ d)).1.2.1,(cw (aJ d)).1.2.2.1,(cw (aJ d)).1.2.2.2.1,(cw (aJ d)).1.2.2.2.2.1,(cw (aJ d)).1.2.2.2.2.2.1,(cw (aJ d)).1.2.2.2.2.2.2.1,(cw (aJ d)).1.2.2.2.2.2.2.2.1,(cw (aJ d)).1.2.2.2.2.2.2.2.2.1,(cw (aJ d)).1.2.2.2.2.2.2.2.2.2.1,(cw (aJ d)).1.2.2.2.2.2.2.2.2.2.2.1,(cw (aJ d)).1.2.2.2.2.2.2.2.2.2.2.2.1,(cw (aJ d)).1.2.2.2.2.2.2.2.2.2.2.2.2.1,(cw (aJ d)).1.2.2.2.2.2.2.2.2.2.2.2.2.2.1,(cw (aJ d)).1.2.2.2.2.2.2.2.2.2.2.2.2.2.2.1,(cw (aJ d)).1.2.2.2.2.2.2.2.2.2.2.2.2.2.2.2.1,(cw (aJ d)).2,()):=s1;have s2:pF d.2.2.1 d.2.2.2.1 d.2.2.2.2.1 d.2.2.2.2.2.1 d.2.2.2.2.2.2.1 d.2.2.2.2.2.2.2.1 d.2.2.2.2.2.2.2.2.1 d.2.2.2.2.2.2.2.2.2.1 d.2.2.2.2.2.2.2.2.2.2.1 d.2.2.2.2.2.2.2.2.2.2.2.1 d.2.2.2.2.2.2.2.2.2.2.2.2.1 d.2.2.2.2.2.2.2.2.2.2.2.2.2.1 d.2.2.2.2.2.2.2.2.2.2.2.2.2.2.1 d.2.2.2.2.2.2.2.2.2.2.2.2.2.2.2.1 d.2.2.2.2.2.2.2.2.2.2.2.2.2.2.2.2.1 d.2.2.2.2.2.2.2.2.2.2.2.2.2.2.2.2.2.1=some ((cw (aJ d)).1.1,(cw (aJ d)).1.2.1,(cw (aJ d)).1.2.2.1,(cw (aJ d)).1.2.2.2.1,(cw (aJ d)).1.2.2.2.2.1,(cw (aJ d)).1.2.2.2.2.2.1,(cw (aJ d)).1.2.2.2.2.2.2.1,(cw (aJ d)).1.2.2.2.2.2.2.2.1,(cw (aJ d)).1.2.2.2.2.2.2.2.2.1,(cw (aJ d)).1.2.2.2.2.2.2.2.2.2.1,(cw (aJ d)).1.2.2.2.2.2.2.2.2.2.2.1,(cw (aJ d)).1.2.2.2.2.2.2.2.2.2.2.2.1,(cw (aJ d)).1.2.2.2.2.2.2.2.2.2.2.2.2.1,(cw (aJ d)).1.2.2.2.2.2.2.2.2.2.2.2.2.2.1,(cw (aJ d)).1.2.2.2.2.2.2.2.2.2.2.2.2.2.2.1,(cw (aJ d)).1.2.2.2.2.2.2.2.2.2.2.2.2.2.2.2.1,(cw (aJ d)).2,()):=s2;have hr:(cw (aJ d)).1.2.2.1.length≤1048576:=by
  have:(cw (aJ d)).1.2.2.1.length≤ma (cw (aJ d)).1:=by unfold ma;omega
  omega
 unfold rV;generalize cw (aJ d)=q at s1 s2 z2 hr;obtain ⟨m,l⟩:=q;have z2:l.length≤60:=z2;have e1:=WU (iV d m) m l hr (by omega) hg;have e2:=WT (iV d m) l hr (by omega) hg
 constructor
 ·unfold kq;delta db;simp only [s1,Option.bind_some];have e1:aI gH (d.1,d.2.1,m.1,m.2.1,m.2.2.1,m.2.2.2.1,m.2.2.2.2.1,m.2.2.2.2.2.1,m.2.2.2.2.2.2.1,m.2.2.2.2.2.2.2.1,m.2.2.2.2.2.2.2.2.1,m.2.2.2.2.2.2.2.2.2.1,m.2.2.2.2.2.2.2.2.2.2.1,m.2.2.2.2.2.2.2.2.2.2.2.1,m.2.2.2.2.2.2.2.2.2.2.2.2.1,m.2.2.2.2.2.2.2.2.2.2.2.2.2.1,m.2.2.2.2.2.2.2.2.2.2.2.2.2.2.1,m.2.2.2.2.2.2.2.2.2.2.2.2.2.2.2.1,d.2.2.2.2.2.2.2.2.2.2.2.2.2.2.2.2.2.2.1,d.2.2.2.2.2.2.2.2.2.2.2.2.2.2.2.2.2.2.2.1,d.2.2.2.2.2.2.2.2.2.2.2.2.2.2.2.2.2.2.2.2.1,d.2.2.2.2.2.2.2.2.2.2.2.2.2.2.2.2.2.2.2.2.2.1,d.2.2.2.2.2.2.2.2.2.2.2.2.2.2.2.2.2.2.2.2.2.2.1,d.2.2.2.2.2.2.2.2.2.2.2.2.2.2.2.2.2.2.2.2.2.2.2.1,m.1,m.2.1,m.2.2.1,m.2.2.2.1,m.2.2.2.2.1,m.2.2.2.2.2.1,m.2.2.2.2.2.2.1,m.2.2.2.2.2.2.2.1,m.2.2.2.2.2.2.2.2.1,m.2.2.2.2.2.2.2.2.2.1,m.2.2.2.2.2.2.2.2.2.2.1,m.2.2.2.2.2.2.2.2.2.2.2.1,m.2.2.2.2.2.2.2.2.2.2.2.2.1,m.2.2.2.2.2.2.2.2.2.2.2.2.2.1,m.2.2.2.2.2.2.2.2.2.2.2.2.2.2.1,m.2.2.2.2.2.2.2.2.2.2.2.2.2.2.2.1,l,(0:Int),())=_:=e1;rw [e1];rfl
 ·unfold ga;delta ba;simp only [s2,Option.bind_some];have e2:mr d.1 d.2.1 m.1 m.2.1 m.2.2.1 m.2.2.2.1 m.2.2.2.2.1 m.2.2.2.2.2.1 m.2.2.2.2.2.2.1 m.2.2.2.2.2.2.2.1 m.2.2.2.2.2.2.2.2.1 m.2.2.2.2.2.2.2.2.2.1 m.2.2.2.2.2.2.2.2.2.2.1 m.2.2.2.2.2.2.2.2.2.2.2.1 m.2.2.2.2.2.2.2.2.2.2.2.2.1 m.2.2.2.2.2.2.2.2.2.2.2.2.2.1 m.2.2.2.2.2.2.2.2.2.2.2.2.2.2.1 m.2.2.2.2.2.2.2.2.2.2.2.2.2.2.2.1 d.2.2.2.2.2.2.2.2.2.2.2.2.2.2.2.2.2.2.1 d.2.2.2.2.2.2.2.2.2.2.2.2.2.2.2.2.2.2.2.1 d.2.2.2.2.2.2.2.2.2.2.2.2.2.2.2.2.2.2.2.2.1 d.2.2.2.2.2.2.2.2.2.2.2.2.2.2.2.2.2.2.2.2.2.1 d.2.2.2.2.2.2.2.2.2.2.2.2.2.2.2.2.2.2.2.2.2.2.1 d.2.2.2.2.2.2.2.2.2.2.2.2.2.2.2.2.2.2.2.2.2.2.2.1 l=_:=e2;rw [e2];rfl
noncomputable def gd (d:bZ):Bool:=mb d&&(!d.2.1&&(decide (0<d.2.2.2.2.2.2.2.2.2.2.2.2.2.2.2.2.2.2.2.1)&&decide (d.2.2.2.2.2.2.2.2.2.2.2.2.2.2.2.2.2.2.2.2.1=0)))
theorem N3 (d:bZ) (h:mT d≤1048576) (hi:gd d=true):xR d∧qW (aJ d)∧d.2.1=false∧d.2.2.2.2.2.2.2.2.2.2.2.2.2.2.2.2.2.2.2.2.1=0∧0<d.2.2.2.2.2.2.2.2.2.2.2.2.2.2.2.2.2.2.2.1∧d.2.2.2.2.2.2.2.2.2.2.2.2.2.2.2.2.2.2.2.1=d.2.2.2.1:=by
 unfold gd at hi;simp only [Bool.and_eq_true,decide_eq_true_eq,Bool.not_eq_true'] at hi;obtain ⟨h1,h2,h3,h4⟩:=hi;have q:=(mc d h).2.2.1 h1;refine ⟨q,?_,h2,h4,h3,q.old.1⟩;rcases q.tI with g | ⟨g,_⟩
 ·have:d.2.2.2.1=0:=g.2.1;have:=q.old.1;omega
 ·exact g
theorem CO (d:bZ) (h:mT d≤1048576):(!decide (d.2.2.2.1=0)&&decide (d.2.2.2.2.2.2.2.2.2.2.2.2.2.2.2.2.2.2.2.2.1=0)&&mb d)=gd d:=by
 unfold gd
 cases hb:mb d
 ·simp
 have q:=(mc d h).2.2.1 hb
 by_cases ho:d.2.2.2.1=0
 ·have:¬0<d.2.2.2.2.2.2.2.2.2.2.2.2.2.2.2.2.2.2.2.1:=by have:=q.old.1;omega
  rw [ak ho,aq this]
  cases d.2.1<;>rfl
 ·have hm:qW (aJ d):=by
   rcases q.tI with g | ⟨g,_⟩
   ·exact absurd g.2.1 ho
   ·exact g
  have h1:1≤d.2.2.2.1:=hm.ring.1.1;have hd:d.2.1=false:=by
   cases hd:d.2.1
   ·rfl
   ·exact absurd (q.dead hd).1.2.1 ho
  have:0<d.2.2.2.2.2.2.2.2.2.2.2.2.2.2.2.2.2.2.2.1:=by have:=q.old.1;omega
  rw [aq ho,ak this,hd]
  cases decide (d.2.2.2.2.2.2.2.2.2.2.2.2.2.2.2.2.2.2.2.2.1=0)<;>rfl
noncomputable def lC (d:bZ) (sL:Int) (x:dY):bZ:=bif gd d&&decide (d.2.2.2.2.2.2.2.2.2.2.2.2.2.2.2.2.2.2.2.1=sL) then rV (iV d (qN (aJ d) x)) else d
theorem Jr (d:bZ) (sL:Int) (x:dY) (m:iA) (r:bZ) (p1:cm d.1 d.2.1 d.2.2.1 d.2.2.2.1 d.2.2.2.2.1 d.2.2.2.2.2.1 d.2.2.2.2.2.2.1 d.2.2.2.2.2.2.2.1 d.2.2.2.2.2.2.2.2.1 d.2.2.2.2.2.2.2.2.2.1 d.2.2.2.2.2.2.2.2.2.2.1 d.2.2.2.2.2.2.2.2.2.2.2.1 d.2.2.2.2.2.2.2.2.2.2.2.2.1 d.2.2.2.2.2.2.2.2.2.2.2.2.2.1 d.2.2.2.2.2.2.2.2.2.2.2.2.2.2.1 d.2.2.2.2.2.2.2.2.2.2.2.2.2.2.2.1 d.2.2.2.2.2.2.2.2.2.2.2.2.2.2.2.2.1 d.2.2.2.2.2.2.2.2.2.2.2.2.2.2.2.2.2.1 d.2.2.2.2.2.2.2.2.2.2.2.2.2.2.2.2.2.2.1 d.2.2.2.2.2.2.2.2.2.2.2.2.2.2.2.2.2.2.2.1 d.2.2.2.2.2.2.2.2.2.2.2.2.2.2.2.2.2.2.2.2.1 d.2.2.2.2.2.2.2.2.2.2.2.2.2.2.2.2.2.2.2.2.2.1 d.2.2.2.2.2.2.2.2.2.2.2.2.2.2.2.2.2.2.2.2.2.2.1 d.2.2.2.2.2.2.2.2.2.2.2.2.2.2.2.2.2.2.2.2.2.2.2.1=some d) (hi:ff d.1 d.2.1 d.2.2.1 d.2.2.2.1 d.2.2.2.2.1 d.2.2.2.2.2.1 d.2.2.2.2.2.2.1 d.2.2.2.2.2.2.2.1 d.2.2.2.2.2.2.2.2.1 d.2.2.2.2.2.2.2.2.2.1 d.2.2.2.2.2.2.2.2.2.2.1 d.2.2.2.2.2.2.2.2.2.2.2.1 d.2.2.2.2.2.2.2.2.2.2.2.2.1 d.2.2.2.2.2.2.2.2.2.2.2.2.2.1 d.2.2.2.2.2.2.2.2.2.2.2.2.2.2.1 d.2.2.2.2.2.2.2.2.2.2.2.2.2.2.2.1 d.2.2.2.2.2.2.2.2.2.2.2.2.2.2.2.2.1 d.2.2.2.2.2.2.2.2.2.2.2.2.2.2.2.2.2.1 d.2.2.2.2.2.2.2.2.2.2.2.2.2.2.2.2.2.2.1 d.2.2.2.2.2.2.2.2.2.2.2.2.2.2.2.2.2.2.2.1 d.2.2.2.2.2.2.2.2.2.2.2.2.2.2.2.2.2.2.2.2.1 d.2.2.2.2.2.2.2.2.2.2.2.2.2.2.2.2.2.2.2.2.2.1 d.2.2.2.2.2.2.2.2.2.2.2.2.2.2.2.2.2.2.2.2.2.2.1 d.2.2.2.2.2.2.2.2.2.2.2.2.2.2.2.2.2.2.2.2.2.2.2.1=some (gd d,())) (c1:vH d.2.2.1 d.2.2.2.1 d.2.2.2.2.1 d.2.2.2.2.2.1 d.2.2.2.2.2.2.1 d.2.2.2.2.2.2.2.1 d.2.2.2.2.2.2.2.2.1 d.2.2.2.2.2.2.2.2.2.1 d.2.2.2.2.2.2.2.2.2.2.1 d.2.2.2.2.2.2.2.2.2.2.2.1 d.2.2.2.2.2.2.2.2.2.2.2.2.1 d.2.2.2.2.2.2.2.2.2.2.2.2.2.1 d.2.2.2.2.2.2.2.2.2.2.2.2.2.2.1 d.2.2.2.2.2.2.2.2.2.2.2.2.2.2.2.1 d.2.2.2.2.2.2.2.2.2.2.2.2.2.2.2.2.1 d.2.2.2.2.2.2.2.2.2.2.2.2.2.2.2.2.2.1 x.1 x.2.1 x.2.2.1 x.2.2.2.1=some m)
  (e1:kq d.1 d.2.1 m.1 m.2.1 m.2.2.1 m.2.2.2.1 m.2.2.2.2.1 m.2.2.2.2.2.1 m.2.2.2.2.2.2.1 m.2.2.2.2.2.2.2.1 m.2.2.2.2.2.2.2.2.1 m.2.2.2.2.2.2.2.2.2.1 m.2.2.2.2.2.2.2.2.2.2.1 m.2.2.2.2.2.2.2.2.2.2.2.1 m.2.2.2.2.2.2.2.2.2.2.2.2.1 m.2.2.2.2.2.2.2.2.2.2.2.2.2.1 m.2.2.2.2.2.2.2.2.2.2.2.2.2.2.1 m.2.2.2.2.2.2.2.2.2.2.2.2.2.2.2.1 d.2.2.2.2.2.2.2.2.2.2.2.2.2.2.2.2.2.2.1 d.2.2.2.2.2.2.2.2.2.2.2.2.2.2.2.2.2.2.2.1 d.2.2.2.2.2.2.2.2.2.2.2.2.2.2.2.2.2.2.2.2.1 d.2.2.2.2.2.2.2.2.2.2.2.2.2.2.2.2.2.2.2.2.2.1 d.2.2.2.2.2.2.2.2.2.2.2.2.2.2.2.2.2.2.2.2.2.2.1 d.2.2.2.2.2.2.2.2.2.2.2.2.2.2.2.2.2.2.2.2.2.2.2.1=some r):kM d.1 d.2.1 d.2.2.1 d.2.2.2.1 d.2.2.2.2.1 d.2.2.2.2.2.1 d.2.2.2.2.2.2.1 d.2.2.2.2.2.2.2.1 d.2.2.2.2.2.2.2.2.1 d.2.2.2.2.2.2.2.2.2.1 d.2.2.2.2.2.2.2.2.2.2.1 d.2.2.2.2.2.2.2.2.2.2.2.1 d.2.2.2.2.2.2.2.2.2.2.2.2.1 d.2.2.2.2.2.2.2.2.2.2.2.2.2.1 d.2.2.2.2.2.2.2.2.2.2.2.2.2.2.1 d.2.2.2.2.2.2.2.2.2.2.2.2.2.2.2.1 d.2.2.2.2.2.2.2.2.2.2.2.2.2.2.2.2.1 d.2.2.2.2.2.2.2.2.2.2.2.2.2.2.2.2.2.1 d.2.2.2.2.2.2.2.2.2.2.2.2.2.2.2.2.2.2.1 d.2.2.2.2.2.2.2.2.2.2.2.2.2.2.2.2.2.2.2.1 d.2.2.2.2.2.2.2.2.2.2.2.2.2.2.2.2.2.2.2.2.1 d.2.2.2.2.2.2.2.2.2.2.2.2.2.2.2.2.2.2.2.2.2.1 d.2.2.2.2.2.2.2.2.2.2.2.2.2.2.2.2.2.2.2.2.2.2.1 d.2.2.2.2.2.2.2.2.2.2.2.2.2.2.2.2.2.2.2.2.2.2.2.1 sL x.1 x.2.1 x.2.2.1 x.2.2.2.1=some (bif gd d&&decide (d.2.2.2.2.2.2.2.2.2.2.2.2.2.2.2.2.2.2.2.1=sL) then r else d):=by
 unfold kM;delta ba aP;rw [p1,Option.bind_some,hi,Option.bind_some]
 cases gd d
 ·rfl
 ·cases decide (d.2.2.2.2.2.2.2.2.2.2.2.2.2.2.2.2.2.2.2.1=sL)
  ·rfl
  ·rw [cond_true,cond_true,c1,Option.bind_some,e1,Option.bind_some];rfl
theorem Js (d:bZ) (sL:Int) (x:dY) (m:iA) (r:bZ) (p2:eG d.1 d.2.1 d.2.2.1 d.2.2.2.1 d.2.2.2.2.1 d.2.2.2.2.2.1 d.2.2.2.2.2.2.1 d.2.2.2.2.2.2.2.1 d.2.2.2.2.2.2.2.2.1 d.2.2.2.2.2.2.2.2.2.1 d.2.2.2.2.2.2.2.2.2.2.1 d.2.2.2.2.2.2.2.2.2.2.2.1 d.2.2.2.2.2.2.2.2.2.2.2.2.1 d.2.2.2.2.2.2.2.2.2.2.2.2.2.1 d.2.2.2.2.2.2.2.2.2.2.2.2.2.2.1 d.2.2.2.2.2.2.2.2.2.2.2.2.2.2.2.1 d.2.2.2.2.2.2.2.2.2.2.2.2.2.2.2.2.1 d.2.2.2.2.2.2.2.2.2.2.2.2.2.2.2.2.2.1 d.2.2.2.2.2.2.2.2.2.2.2.2.2.2.2.2.2.2.1 d.2.2.2.2.2.2.2.2.2.2.2.2.2.2.2.2.2.2.2.1 d.2.2.2.2.2.2.2.2.2.2.2.2.2.2.2.2.2.2.2.2.1 d.2.2.2.2.2.2.2.2.2.2.2.2.2.2.2.2.2.2.2.2.2.1 d.2.2.2.2.2.2.2.2.2.2.2.2.2.2.2.2.2.2.2.2.2.2.1 d.2.2.2.2.2.2.2.2.2.2.2.2.2.2.2.2.2.2.2.2.2.2.2.1=some d) (k2:dz d.1 d.2.1 d.2.2.1 d.2.2.2.1 d.2.2.2.2.1 d.2.2.2.2.2.1 d.2.2.2.2.2.2.1 d.2.2.2.2.2.2.2.1 d.2.2.2.2.2.2.2.2.1 d.2.2.2.2.2.2.2.2.2.1 d.2.2.2.2.2.2.2.2.2.2.1 d.2.2.2.2.2.2.2.2.2.2.2.1 d.2.2.2.2.2.2.2.2.2.2.2.2.1 d.2.2.2.2.2.2.2.2.2.2.2.2.2.1 d.2.2.2.2.2.2.2.2.2.2.2.2.2.2.1 d.2.2.2.2.2.2.2.2.2.2.2.2.2.2.2.1 d.2.2.2.2.2.2.2.2.2.2.2.2.2.2.2.2.1 d.2.2.2.2.2.2.2.2.2.2.2.2.2.2.2.2.2.1 d.2.2.2.2.2.2.2.2.2.2.2.2.2.2.2.2.2.2.1 d.2.2.2.2.2.2.2.2.2.2.2.2.2.2.2.2.2.2.2.1 d.2.2.2.2.2.2.2.2.2.2.2.2.2.2.2.2.2.2.2.2.1 d.2.2.2.2.2.2.2.2.2.2.2.2.2.2.2.2.2.2.2.2.2.1 d.2.2.2.2.2.2.2.2.2.2.2.2.2.2.2.2.2.2.2.2.2.2.1 d.2.2.2.2.2.2.2.2.2.2.2.2.2.2.2.2.2.2.2.2.2.2.2.1=some (mb d,())) (hq:(!decide (d.2.2.2.1=0)&&decide (d.2.2.2.2.2.2.2.2.2.2.2.2.2.2.2.2.2.2.2.2.1=0)&&mb d)=gd d) (Xo:gd d=true→d.2.2.2.2.2.2.2.2.2.2.2.2.2.2.2.2.2.2.2.1=d.2.2.2.1) (c2:vV d.2.2.1 d.2.2.2.1 d.2.2.2.2.1 d.2.2.2.2.2.1 d.2.2.2.2.2.2.1 d.2.2.2.2.2.2.2.1 d.2.2.2.2.2.2.2.2.1 d.2.2.2.2.2.2.2.2.2.1 d.2.2.2.2.2.2.2.2.2.2.1 d.2.2.2.2.2.2.2.2.2.2.2.1 d.2.2.2.2.2.2.2.2.2.2.2.2.1 d.2.2.2.2.2.2.2.2.2.2.2.2.2.1 d.2.2.2.2.2.2.2.2.2.2.2.2.2.2.1 d.2.2.2.2.2.2.2.2.2.2.2.2.2.2.2.1 d.2.2.2.2.2.2.2.2.2.2.2.2.2.2.2.2.1 d.2.2.2.2.2.2.2.2.2.2.2.2.2.2.2.2.2.1 x.1 x.2.1 x.2.2.1 x.2.2.2.1=some m)
  (e2:ga d.1 d.2.1 m.1 m.2.1 m.2.2.1 m.2.2.2.1 m.2.2.2.2.1 m.2.2.2.2.2.1 m.2.2.2.2.2.2.1 m.2.2.2.2.2.2.2.1 m.2.2.2.2.2.2.2.2.1 m.2.2.2.2.2.2.2.2.2.1 m.2.2.2.2.2.2.2.2.2.2.1 m.2.2.2.2.2.2.2.2.2.2.2.1 m.2.2.2.2.2.2.2.2.2.2.2.2.1 m.2.2.2.2.2.2.2.2.2.2.2.2.2.1 m.2.2.2.2.2.2.2.2.2.2.2.2.2.2.1 m.2.2.2.2.2.2.2.2.2.2.2.2.2.2.2.1 d.2.2.2.2.2.2.2.2.2.2.2.2.2.2.2.2.2.2.1 d.2.2.2.2.2.2.2.2.2.2.2.2.2.2.2.2.2.2.2.1 d.2.2.2.2.2.2.2.2.2.2.2.2.2.2.2.2.2.2.2.2.1 d.2.2.2.2.2.2.2.2.2.2.2.2.2.2.2.2.2.2.2.2.2.1 d.2.2.2.2.2.2.2.2.2.2.2.2.2.2.2.2.2.2.2.2.2.2.1 d.2.2.2.2.2.2.2.2.2.2.2.2.2.2.2.2.2.2.2.2.2.2.2.1=some r):oO d.1 d.2.1 d.2.2.1 d.2.2.2.1 d.2.2.2.2.1 d.2.2.2.2.2.1 d.2.2.2.2.2.2.1 d.2.2.2.2.2.2.2.1 d.2.2.2.2.2.2.2.2.1 d.2.2.2.2.2.2.2.2.2.1 d.2.2.2.2.2.2.2.2.2.2.1 d.2.2.2.2.2.2.2.2.2.2.2.1 d.2.2.2.2.2.2.2.2.2.2.2.2.1 d.2.2.2.2.2.2.2.2.2.2.2.2.2.1 d.2.2.2.2.2.2.2.2.2.2.2.2.2.2.1 d.2.2.2.2.2.2.2.2.2.2.2.2.2.2.2.1 d.2.2.2.2.2.2.2.2.2.2.2.2.2.2.2.2.1 d.2.2.2.2.2.2.2.2.2.2.2.2.2.2.2.2.2.1 d.2.2.2.2.2.2.2.2.2.2.2.2.2.2.2.2.2.2.1 d.2.2.2.2.2.2.2.2.2.2.2.2.2.2.2.2.2.2.2.1 d.2.2.2.2.2.2.2.2.2.2.2.2.2.2.2.2.2.2.2.2.1 d.2.2.2.2.2.2.2.2.2.2.2.2.2.2.2.2.2.2.2.2.2.1 d.2.2.2.2.2.2.2.2.2.2.2.2.2.2.2.2.2.2.2.2.2.2.1 d.2.2.2.2.2.2.2.2.2.2.2.2.2.2.2.2.2.2.2.2.2.2.2.1 sL x.1 x.2.1 x.2.2.1 x.2.2.2.1=some (bif gd d&&decide (d.2.2.2.2.2.2.2.2.2.2.2.2.2.2.2.2.2.2.2.1=sL) then r else d):=by
 unfold oO gz;delta ba az aP;rw [p2,Option.bind_some];rw [←hq] at Xo ⊢
 cases ho:decide (d.2.2.2.1=0)
 ·cases hj:decide (d.2.2.2.2.2.2.2.2.2.2.2.2.2.2.2.2.2.2.2.2.1=0)
  ·rfl
  ·rw [ho,hj] at Xo;simp only [Bool.not_false,cond_true,Option.bind_some,Bool.not_true,cond_false,k2,Bool.true_and]
   cases hb:mb d
   ·cases decide (d.2.2.2.1=sL)<;>rfl
   ·rw [hb] at Xo;have hc:decide (d.2.2.2.2.2.2.2.2.2.2.2.2.2.2.2.2.2.2.2.1=sL)=decide (d.2.2.2.1=sL):=by rw [Xo rfl]
    rw [hc]
    cases decide (d.2.2.2.1=sL)
    ·rfl
    ·simp only [Bool.not_true,cond_false,Bool.and_self,cond_true,c2,e2,Option.bind_some]
 ·rfl
theorem B7 (d:bZ) (sL:Int) (x:dY) (h:mT d≤1048576):kM d.1 d.2.1 d.2.2.1 d.2.2.2.1 d.2.2.2.2.1 d.2.2.2.2.2.1 d.2.2.2.2.2.2.1 d.2.2.2.2.2.2.2.1 d.2.2.2.2.2.2.2.2.1 d.2.2.2.2.2.2.2.2.2.1 d.2.2.2.2.2.2.2.2.2.2.1 d.2.2.2.2.2.2.2.2.2.2.2.1 d.2.2.2.2.2.2.2.2.2.2.2.2.1 d.2.2.2.2.2.2.2.2.2.2.2.2.2.1 d.2.2.2.2.2.2.2.2.2.2.2.2.2.2.1 d.2.2.2.2.2.2.2.2.2.2.2.2.2.2.2.1 d.2.2.2.2.2.2.2.2.2.2.2.2.2.2.2.2.1 d.2.2.2.2.2.2.2.2.2.2.2.2.2.2.2.2.2.1 d.2.2.2.2.2.2.2.2.2.2.2.2.2.2.2.2.2.2.1 d.2.2.2.2.2.2.2.2.2.2.2.2.2.2.2.2.2.2.2.1 d.2.2.2.2.2.2.2.2.2.2.2.2.2.2.2.2.2.2.2.2.1 d.2.2.2.2.2.2.2.2.2.2.2.2.2.2.2.2.2.2.2.2.2.1 d.2.2.2.2.2.2.2.2.2.2.2.2.2.2.2.2.2.2.2.2.2.2.1 d.2.2.2.2.2.2.2.2.2.2.2.2.2.2.2.2.2.2.2.2.2.2.2.1 sL x.1 x.2.1 x.2.2.1 x.2.2.2.1=some (lC d sL x)∧oO d.1 d.2.1 d.2.2.1 d.2.2.2.1 d.2.2.2.2.1 d.2.2.2.2.2.1 d.2.2.2.2.2.2.1 d.2.2.2.2.2.2.2.1 d.2.2.2.2.2.2.2.2.1 d.2.2.2.2.2.2.2.2.2.1 d.2.2.2.2.2.2.2.2.2.2.1 d.2.2.2.2.2.2.2.2.2.2.2.1 d.2.2.2.2.2.2.2.2.2.2.2.2.1 d.2.2.2.2.2.2.2.2.2.2.2.2.2.1 d.2.2.2.2.2.2.2.2.2.2.2.2.2.2.1 d.2.2.2.2.2.2.2.2.2.2.2.2.2.2.2.1 d.2.2.2.2.2.2.2.2.2.2.2.2.2.2.2.2.1 d.2.2.2.2.2.2.2.2.2.2.2.2.2.2.2.2.2.1 d.2.2.2.2.2.2.2.2.2.2.2.2.2.2.2.2.2.2.1 d.2.2.2.2.2.2.2.2.2.2.2.2.2.2.2.2.2.2.2.1 d.2.2.2.2.2.2.2.2.2.2.2.2.2.2.2.2.2.2.2.2.1 d.2.2.2.2.2.2.2.2.2.2.2.2.2.2.2.2.2.2.2.2.2.1 d.2.2.2.2.2.2.2.2.2.2.2.2.2.2.2.2.2.2.2.2.2.2.1 d.2.2.2.2.2.2.2.2.2.2.2.2.2.2.2.2.2.2.2.2.2.2.2.1 sL x.1 x.2.1 x.2.2.1 x.2.2.2.1=some (lC d sL x):=by
 obtain ⟨k1,k2,_⟩:=mc d h;obtain ⟨p1,p2⟩:=uE d h;have hw:ma (aJ d)≤1048576:=Nat.le_trans (WR d) h;obtain ⟨c1,c2⟩:=P0 (aJ d) x hw;have hg:d.2.2.2.2.2.2.2.2.2.2.2.2.2.2.2.2.2.2.2.2.2.2.2.1.length≤1048576:=by unfold mT at h;omega
 obtain ⟨e1,e2⟩:=Ix (iV d (qN (aJ d) x)) (P1 (aJ d) x hw) hg;exact ⟨Jr d sL x _ _ p1 (xU d h) c1 e1,Js d sL x _ _ p2 k2 (CO d h) (fun hi=>(N3 d h hi).2.2.2.2.2) c2 e2⟩
end Go.TM
set_option linter.unusedSimpArgs false
set_option linter.unusedVariables false
namespace Go.TM
open Go
def WV {A B C:Type} (P:A→Prop):Sum A B→Sum A C→Prop
 |.inl a,.inl b=>a=b∧P a
 |_,_=>False
theorem L7 (eL:Int) (eM:Int) (cA:Int) (ew:Int) (eB:Int) (dQ:List (Int×Unit)) (dC:Int) (ee:List (Int×Unit)) (bz:List (ByteArray×Unit)) (h0:List.length dQ≤1048576):∃o0 o1 o2 o3 o4 o5 o6,sD eL eM cA ew eB dQ dC ee bz=some (o0,o1,o2,o3,o4,o5,o6,())∧nE eL eM cA ew eB dQ dC ee bz=some (o0,o1,o2,o3,o4,o5,o6,())∧o5=dQ∧(List.length o6+wl dD o6)≤1048576:=by
 obtain ⟨b,k1,k2,k3⟩:=vZ eL eM cA ew eB dQ (by omega);obtain ⟨c1,c2⟩:=l9 eL eM cA ew eB dQ (by omega);have hm:(if (3:Int)<((List.length bz:Nat):Int) then (3:Int) else ((List.length bz:Nat):Int))=((min 3 bz.length:Nat):Int):=by split<;>omega
 unfold sD nE;delta bA;simp only [k1,k2,c1,c2,mv,pG,Option.bind_some]
 cases b
 ·cases (decide (1≤dC)&&decide (dC≤5))
  ·exact ⟨_,_,_,_,_,dQ,[],rfl,rfl,rfl,by decide⟩
  ·exact ⟨_,_,_,_,_,dQ,[],rfl,rfl,rfl,by decide⟩
 cases (decide (1≤dC)&&decide (dC≤5))
 ·exact ⟨_,_,_,_,_,dQ,[],rfl,rfl,rfl,by decide⟩
 obtain ⟨z1,z2,z3,z4,z5,z6⟩:=k3 rfl;have Xz:(bz.take (min 3 bz.length)).length=min 3 bz.length:=by simp
 simp only [Bool.not_true,cond_false,hm,aF,ax,cond_true,List.drop_zero,Xz,ak (show ((min 3 bz.length:Nat):Int)≤((List.length bz:Nat):Int) by omega)];obtain ⟨e,f,g1,g2,g3⟩:∃e f,aI lj (dC,ee,bz,eL,eM,cA,ew,eB,dQ,(0:Int),(0:Int),(0:Int),(0:Int),(0:Int),[],eL,eM,cA,ew,eB,dQ,[],(0:Int),())=some e∧
   aI fj (dC,ee,eL,eM,cA,ew,eB,dQ,(0:Int),(0:Int),(0:Int),(0:Int),(0:Int),[],eL,eM,cA,ew,eB,dQ,[],bz.take (min 3 bz.length),((min 3 bz.length:Nat):Int),(0:Int),())=some f∧
   WV (fun v=>∃(q:Int) (l:aW),v=(eL,eM,cA,ew,eB,dQ,(0:Int),(0:Int),(0:Int),(0:Int),(0:Int),[],eL,eM,q,ew,eB,dQ,l,())∧l.length≤3∧wl dD l≤180) e f:=by
  refine pW 3 (fun k x y=>∃l:aW,x=(dC,ee,bz,eL,eM,cA,ew,eB,dQ,(0:Int),(0:Int),(0:Int),(0:Int),(0:Int),[],eL,eM,cA+((k:Nat):Int),ew,eB,dQ,l,((k:Nat):Int),())∧
   y=(dC,ee,eL,eM,cA,ew,eB,dQ,(0:Int),(0:Int),(0:Int),(0:Int),(0:Int),[],eL,eM,cA+((k:Nat):Int),ew,eB,dQ,l,bz.take (min 3 bz.length),((min 3 bz.length:Nat):Int),((k:Nat):Int),())∧l.length=k∧wl dD l≤60*k) _ ?_ ⟨[],by rw [show cA+((0:Nat):Int)=cA by omega];rfl,by rw [show cA+((0:Nat):Int)=cA by omega];rfl,rfl,Nat.le_refl _⟩
  rintro k x y hk ⟨l,rfl,rfl,q1,q2⟩
  have stop:∀ {A B:Type} (u:Sum _ A) (v:Sum _ B),u=.inl (eL,eM,cA,ew,eB,dQ,(0:Int),(0:Int),(0:Int),(0:Int),(0:Int),([]:List (Int×Unit)),eL,eM,cA+((k:Nat):Int),ew,eB,dQ,l,())→v=.inl (eL,eM,cA,ew,eB,dQ,(0:Int),(0:Int),(0:Int),(0:Int),(0:Int),([]:List (Int×Unit)),eL,eM,cA+((k:Nat):Int),ew,eB,dQ,l,())→
    WV (fun v=>∃(q:Int) (l:aW),v=(eL,eM,cA,ew,eB,dQ,(0:Int),(0:Int),(0:Int),(0:Int),(0:Int),([]:List (Int×Unit)),eL,eM,q,ew,eB,dQ,l,())∧l.length≤3∧wl dD l≤180) u v:=by
   intro A B u v e1 e2;subst e1 e2;exact ⟨rfl,_,l,rfl,by omega,by omega⟩
  by_cases h1:k<bz.length
  ·by_cases h4:k<3
   ·have hmk:k<min 3 bz.length:=by omega
    have IW:(bz.take (min 3 bz.length))[k]?=some bz[k]:=by rw [List.getElem?_take_of_lt hmk];exact List.getElem?_eq_getElem h1
    have e1:IntKind.i64.wrap ((cA+((k:Nat):Int))+(1:Int))=cA+((k+1:Nat):Int):=by rw [dH]<;>omega
    simp only [lj,ba,aP,qb,fj,az,im,aD h1,aD hmk,ak (show ((k:Nat):Int)<(3:Int) by omega),ax,cond_true,aF,List.getElem?_eq_getElem h1,IW,Option.bind_some,e1,aT (show (l.length+1)*40≤lim by unfold lim;omega),aN (show k<4611686018427387904 by omega)]
    by_cases h5:cA+((k:Nat):Int)<60
    ·rw [ak h5,aq (show ¬(60:Int)≤cA+((k:Nat):Int) by omega)]
     by_cases h6:((ByteArray.size bz[k].1:Nat):Int)≤60
     ·rw [ak h6,aq (show ¬(60:Int)<((ByteArray.size bz[k].1:Nat):Int) by omega)];have add:∀lv:Int,wl dD (l++[(cA+((k+1:Nat):Int),dC,lv,bz[k].1,())])≤60*(k+1):=by
       intro lv;rw [Hv];have:wl dD [(cA+((k+1:Nat):Int),dC,lv,bz[k].1,())]=ByteArray.size bz[k].1:=rfl;omega
      by_cases h7:k<ee.length
      ·rw [aD h7];simp only [cond_true,cond_false,List.getElem?_eq_getElem h7,Option.bind_some]
       cases decide (ee[k].1=2)
       ·exact .inr ⟨h4,_,_,rfl,rfl,_,rfl,rfl,by simp [q1],add 1⟩
       ·exact .inr ⟨h4,_,_,rfl,rfl,_,rfl,rfl,by simp [q1],add 2⟩
      ·rw [aq (show ¬((k:Nat):Int)<((List.length ee:Nat):Int) by omega)];exact .inr ⟨h4,_,_,rfl,rfl,_,rfl,rfl,by simp [q1],add 1⟩
     ·rw [aq h6,ak (show (60:Int)<((ByteArray.size bz[k].1:Nat):Int) by omega)];exact .inl ⟨_,_,rfl,rfl,stop _ _ rfl rfl⟩
    ·rw [aq h5,ak (show (60:Int)≤cA+((k:Nat):Int) by omega)];exact .inl ⟨_,_,rfl,rfl,stop _ _ rfl rfl⟩
   ·have hk3:k=3:=by omega
    refine .inl ⟨_,_,?_,?_,stop _ _ rfl rfl⟩
    ·simp only [lj,ba,aP,qb,aD h1,aq (show ¬((k:Nat):Int)<(3:Int) by omega),cond_true,cond_false]
    ·simp only [fj,az,im,aq (show ¬((k:Nat):Int)<((min 3 bz.length:Nat):Int) by omega),cond_false]
  ·refine .inl ⟨_,_,?_,?_,stop _ _ rfl rfl⟩
   ·simp only [lj,ba,aP,qb,aq (show ¬((k:Nat):Int)<((List.length bz:Nat):Int) by omega),cond_false]
   ·simp only [fj,az,im,aq (show ¬((k:Nat):Int)<((min 3 bz.length:Nat):Int) by omega),cond_false]
 rw [g1,g2]
 cases e with
 |inr e=>exact g3.elim
 |inl e=>cases f with
  |inr f=>exact g3.elim
  |inl f=>
   obtain ⟨rfl,q,l,rfl,q1,q2⟩:=g3;simp only [kk]
   cases decide (ew=cA)
   ·exact ⟨_,_,_,_,_,dQ,l,rfl,rfl,rfl,by omega⟩
   ·cases decide (eB=0)
    ·exact ⟨_,_,_,_,_,dQ,l,rfl,rfl,rfl,by omega⟩
    ·exact ⟨_,_,_,_,_,dQ,l,rfl,rfl,rfl,by omega⟩
end Go.TM
set_option linter.unusedSimpArgs false
set_option linter.unusedVariables false
namespace Go.TM
open Go
def Gv (c2 from_:Int) (level:List (Int×Unit)) (texts:List (ByteArray×Unit)) (j:Nat):dY:=
 (c2+((j+1:Nat):Int),from_,(bif decide (j<level.length)&&decide ((level.getD j ((0:Int),())).1=2) then 2 else 1),(texts.getD j (ByteArray.empty,())).1,())
def iy (c2 from_:Int) (level:List (Int×Unit)) (texts:List (ByteArray×Unit)) (m:Nat):aW:=(List.range m).map (Gv c2 from_ level texts)
theorem zC (c2 from_:Int) (level:List (Int×Unit)) (texts:List (ByteArray×Unit)) (m:Nat):(iy c2 from_ level texts m).length=m:=by simp [iy]
theorem Jt (c2 from_:Int) (level:List (Int×Unit)) (texts:List (ByteArray×Unit)) (m:Nat):iy c2 from_ level texts (m+1)=iy c2 from_ level texts m++[Gv c2 from_ level texts m]:=by
 unfold iy;rw [List.range_succ,List.map_append];rfl
def Gw (c2:Int) (texts:List (ByteArray×Unit)) (m:Nat):Prop:=m=min 3 texts.length∨60≤c2+((m:Nat):Int)∨∃h:m<texts.length,60<ByteArray.size texts[m].1
theorem P9 (eL:Int) (eM:Int) (cA:Int) (ew:Int) (eB:Int) (dQ:List (Int×Unit)) (dC:Int) (ee:List (Int×Unit)) (bz:List (ByteArray×Unit)) (h0:List.length dQ≤1048576) (h3:List.length bz≤1048576) (hd:1≤dC∧dC≤5) (ht:afz eL eM cA ew eB dQ) :
  ∃m t3,nE eL eM cA ew eB dQ dC ee bz=some (eL,eM,cA+((m:Nat):Int),t3,eB,dQ,iy cA dC ee bz m,())∧m≤3∧m≤bz.length∧cA+((m:Nat):Int)≤60∧(t3=ew∨t3=cA+((m:Nat):Int))∧Gw cA bz m∧t3=(if ew=cA∧eB=0 then cA+((m:Nat):Int) else ew):=by
 obtain ⟨b,_,k2,k3⟩:=KR eL eM cA ew eB dQ h0;have hb:=k3.2 ht;subst hb;obtain ⟨_,c2⟩:=l9 eL eM cA ew eB dQ h0;obtain ⟨_,_,z2,z3,_⟩:=ht;have hm:(if (3:Int)<((List.length bz:Nat):Int) then (3:Int) else ((List.length bz:Nat):Int))=((min 3 bz.length:Nat):Int):=by split<;>omega
 have Xz:(bz.take (min 3 bz.length)).length=min 3 bz.length:=by simp
 unfold nE;delta bA;simp only [k2,c2,pG,ak hd.1,ak hd.2,Bool.and_self,Option.bind_some,Bool.not_true,cond_false,hm,aF,ax,cond_true,List.drop_zero,Xz,ak (show ((min 3 bz.length:Nat):Int)≤((List.length bz:Nat):Int) by omega)];have fin:∀(k:Nat),∃v:Int×Int×Int×Int×Int×(List (Int×Unit))×Int×Int×Int×Int×Int×(List (Int×Unit))×Int×Int×Int×Int×Int×(List (Int×Unit))×aW×Unit,v=(eL,eM,cA,ew,eB,dQ,(0:Int),(0:Int),(0:Int),(0:Int),(0:Int),[],eL,eM,cA+((k:Nat):Int),ew,eB,dQ,iy cA dC ee bz k,()):=fun k=>⟨_,rfl⟩
 obtain ⟨e,g1,m,g2,g3,g4,g5,g6⟩:∃e,aI fj (dC,ee,eL,eM,cA,ew,eB,dQ,(0:Int),(0:Int),(0:Int),(0:Int),(0:Int),[],eL,eM,cA,ew,eB,dQ,[],bz.take (min 3 bz.length),((min 3 bz.length:Nat):Int),(0:Int),())=some e∧
   ∃m:Nat,e=.inl (eL,eM,cA,ew,eB,dQ,(0:Int),(0:Int),(0:Int),(0:Int),(0:Int),[],eL,eM,cA+((m:Nat):Int),ew,eB,dQ,iy cA dC ee bz m,())∧m≤3∧m≤bz.length∧cA+((m:Nat):Int)≤60∧Gw cA bz m:=by
  refine dA (min 3 bz.length) (fun k x=>x=(dC,ee,eL,eM,cA,ew,eB,dQ,(0:Int),(0:Int),(0:Int),(0:Int),(0:Int),[],eL,eM,cA+((k:Nat):Int),ew,eB,dQ,iy cA dC ee bz k,bz.take (min 3 bz.length),((min 3 bz.length:Nat):Int),((k:Nat):Int),())∧cA+((k:Nat):Int)≤60) _ ?_ ?_ ⟨by rw [show cA+((0:Nat):Int)=cA by omega];rfl,by omega⟩
  ·rintro x ⟨rfl,q⟩
   exact ⟨_,by simp only [fj,az,im,aM,cond_false],_,rfl,by omega,by omega,q,.inl rfl⟩
  ·rintro k x hmk ⟨rfl,q⟩
   have h1:k<bz.length:=by omega
   have IW:(bz.take (min 3 bz.length))[k]?=some bz[k]:=by rw [List.getElem?_take_of_lt hmk];exact List.getElem?_eq_getElem h1
   have hgt:(bz.getD k (ByteArray.empty,())).1=bz[k].1:=by rw [List.getD_eq_getElem?_getD,List.getElem?_eq_getElem h1,Option.getD_some]
   have stop:Gw cA bz k→∃m:Nat,(.inl (eL,eM,cA,ew,eB,dQ,(0:Int),(0:Int),(0:Int),(0:Int),(0:Int),[],eL,eM,cA+((k:Nat):Int),ew,eB,dQ,iy cA dC ee bz k,()):Sum _ Unit)=.inl (eL,eM,cA,ew,eB,dQ,(0:Int),(0:Int),(0:Int),(0:Int),(0:Int),([]:List (Int×Unit)),eL,eM,cA+((m:Nat):Int),ew,eB,dQ,iy cA dC ee bz m,())∧m≤3∧m≤bz.length∧cA+((m:Nat):Int)≤60∧Gw cA bz m:=
    fun hq=>⟨k,rfl,by omega,by omega,q,hq⟩
   by_cases h5:(60:Int)≤cA+((k:Nat):Int)
   ·refine .inl ⟨_,?_,stop (.inr (.inl h5))⟩;simp only [fj,az,im,aD hmk,ax,cond_true,aF,IW,Option.bind_some,ak h5]
   have e1:IntKind.i64.wrap ((cA+((k:Nat):Int))+(1:Int))=cA+((k+1:Nat):Int):=by rw [dH]<;>omega
   by_cases h6:(60:Int)<((ByteArray.size bz[k].1:Nat):Int)
   ·refine .inl ⟨_,?_,stop (.inr (.inr ⟨h1,by omega⟩))⟩;simp only [fj,az,im,aD hmk,ax,cond_true,cond_false,aF,IW,Option.bind_some,aq h5,ak h6]
   refine .inr ⟨_,?_,rfl,by omega⟩;have hlen:=zC cA dC ee bz k;simp only [fj,az,im,aD hmk,ax,cond_true,cond_false,aF,IW,Option.bind_some,aq h5,aq h6,e1,hlen,aT (show (k+1)*40≤lim by unfold lim;omega),aN (show k<4611686018427387904 by omega)];rw [Jt];unfold Gv;rw [hgt]
   by_cases h7:k<ee.length
   ·have hgl:ee.getD k ((0:Int),())=ee[k]:=by rw [List.getD_eq_getElem?_getD,List.getElem?_eq_getElem h7,Option.getD_some]
    rw [aD h7,ak h7,hgl];simp only [cond_true,List.getElem?_eq_getElem h7,Option.bind_some,Bool.true_and]
    cases decide (ee[k].1=2)<;>rfl
   ·rw [aq (show ¬((k:Nat):Int)<((List.length ee:Nat):Int) by omega),aq h7];rfl
 rw [g1];subst g2;simp only [kk]
 by_cases w1:ew=cA
 ·rw [ak w1]
  by_cases w2:eB=0
  ·rw [ak w2];exact ⟨m,_,rfl,g3,g4,g5,.inr rfl,g6,by rw [if_pos ⟨w1,w2⟩]⟩
  ·rw [aq w2];exact ⟨m,_,rfl,g3,g4,g5,.inl rfl,g6,by rw [if_neg (fun h=>w2 h.2)]⟩
 ·rw [aq w1];exact ⟨m,_,rfl,g3,g4,g5,.inl rfl,g6,by rw [if_neg (fun h=>w1 h.1)]⟩
end Go.TM
set_option linter.unusedSimpArgs false
set_option linter.unusedVariables false
namespace Go.TM
open Go
def F0 (c2 c3 c4 d a:Int):Int:=if a<c3 then a else if c4=d then (if c2<a then c2 else a) else c3
def F1 (c2 c3 c4 d a:Int):Int:=if a<c3 then d else if c4=d then (if c2≤a then 0 else c4) else c4
theorem WW (c0 c1 c2 c3 c4:Int) (xs:List (Int×Unit)) (d a:Int) (h:xs.length≤1048576) {b:Bool} (hb:eQ c0 c1 c2 c3 c4 xs=some (b,())) :
  ∃t3 t4,xD c0 c1 c2 c3 c4 xs d a=some (c0,c1,c2,t3,t4,xs,())∧xL c0 c1 c2 c3 c4 xs d a=some (c0,c1,c2,t3,t4,xs,())∧
   (b=false∨d<1∨5<d∨a<0→t3=c3∧t4=c4)∧(b=true→1≤d→d≤5→0≤a→0≤c3→c3≤c2→0≤t3∧t3≤c2∧t3≤a∧(t3≤c3∨c4=d)∧(t4=c4∨t4=d∨(t4=0∧c4=d)))∧(b=true→1≤d→d≤5→0≤a→t3=F0 c2 c3 c4 d a∧t4=F1 c2 c3 c4 d a):=by
 obtain ⟨b',h1,h2,_⟩:=vZ c0 c1 c2 c3 c4 xs h;rw [hb] at h1;obtain rfl:b=b':=by injection h1 with h1;injection h1
 obtain ⟨h3,h4⟩:=l9 c0 c1 c2 c3 c4 xs h;unfold xD xL;simp only [Option.bind_some,hb,h2,h3,h4,mv,pG]
 cases b
 ·have:∀t3 t4:Int,t3=c3→t4=c4→(false=false∨d<1∨5<d∨a<0→t3=c3∧t4=c4)∧(false=true→1≤d→d≤5→0≤a→0≤c3→c3≤c2→0≤t3∧t3≤c2∧t3≤a∧(t3≤c3∨c4=d)∧(t4=c4∨t4=d∨(t4=0∧c4=d)))∧(false=true→1≤d→d≤5→0≤a→t3=F0 c2 c3 c4 d a∧t4=F1 c2 c3 c4 d a):=
   fun t3 t4 e1 e2=>⟨fun _=>⟨e1,e2⟩,(fun h=>by cases h),(fun h=>by cases h)⟩
  cases (decide (1≤d)&&decide (d≤5))
  ·exact ⟨_,_,rfl,rfl,this _ _ rfl rfl⟩
  cases decide (a<0)
  ·exact ⟨_,_,rfl,rfl,this _ _ rfl rfl⟩
  ·exact ⟨_,_,rfl,rfl,this _ _ rfl rfl⟩
 by_cases hd:1≤d∧d≤5
 ·rw [ak hd.1,ak hd.2]
  by_cases ha:a<0
  ·rw [ak ha];exact ⟨_,_,rfl,rfl,(fun _=>⟨rfl,rfl⟩),(fun _ _ _ h=>by omega),(fun _ _ _ h=>by omega)⟩
  rw [aq ha];have no:∀ {A:Prop},(true=false∨d<1∨5<d∨a<0)→A:=by
   rintro A (h | h | h | h)
   ·cases h
   ·omega
   ·omega
   ·omega
  by_cases h5:a<c3
  ·rw [ak h5];exact ⟨_,_,rfl,rfl,no,(fun _ _ _ _ _ _=>⟨by omega,by omega,by omega,.inl (by omega),.inr (.inl rfl)⟩),fun _ _ _ _=>by unfold F0 F1;rw [if_pos h5,if_pos h5];exact ⟨rfl,rfl⟩⟩
  rw [aq h5]
  by_cases h6:c4=d
  ·rw [ak h6]
   by_cases h7:c2<a
   ·rw [ak h7,if_pos h7,ak (show c2=c2 from rfl)];exact ⟨_,_,rfl,rfl,no,(fun _ _ _ _ _ _=>⟨by omega,by omega,by omega,.inr h6,.inr (.inr ⟨rfl,h6⟩)⟩),fun _ _ _ _=>by unfold F0 F1;rw [if_neg h5,if_neg h5,if_pos h6,if_pos h6,if_pos h7,if_pos (by omega)];exact ⟨rfl,rfl⟩⟩
   ·rw [aq h7,if_neg h7]
    by_cases h8:a=c2
    ·rw [ak h8];exact ⟨_,_,rfl,rfl,no,(fun _ _ _ _ _ _=>⟨by omega,by omega,by omega,.inr h6,.inr (.inr ⟨rfl,h6⟩)⟩),fun _ _ _ _=>by unfold F0 F1;rw [if_neg h5,if_neg h5,if_pos h6,if_pos h6,if_neg h7,if_pos (by omega)];exact ⟨rfl,rfl⟩⟩
    ·rw [aq h8];exact ⟨_,_,rfl,rfl,no,(fun _ _ _ _ _ _=>⟨by omega,by omega,by omega,.inr h6,.inl rfl⟩),fun _ _ _ _=>by unfold F0 F1;rw [if_neg h5,if_neg h5,if_pos h6,if_pos h6,if_neg h7,if_neg (by omega)];exact ⟨rfl,rfl⟩⟩
  ·rw [aq h6];exact ⟨_,_,rfl,rfl,no,(fun _ _ _ _ _ _=>⟨by omega,by omega,by omega,.inl (by omega),.inl rfl⟩),fun _ _ _ _=>by unfold F0 F1;rw [if_neg h5,if_neg h5,if_neg h6,if_neg h6];exact ⟨rfl,rfl⟩⟩
 ·have e:(decide (1≤d)&&decide (d≤5))=false:=by
   cases hq:(decide (1≤d)&&decide (d≤5))
   ·rfl
   ·rw [Bool.and_eq_true,decide_eq_true_eq,decide_eq_true_eq] at hq;exact absurd hq hd
  rw [e];exact ⟨_,_,rfl,rfl,(fun _=>⟨rfl,rfl⟩),(fun _ h1 h2=>absurd ⟨h1,h2⟩ hd),(fun _ h1 h2=>absurd ⟨h1,h2⟩ hd)⟩
end Go.TM
set_option linter.unusedSimpArgs false
set_option linter.unusedVariables false
namespace Go.TM
open Go
theorem L8 (d:Int) (xs:List (Int×Unit)) (h:xs.length≤1048576):dm xs d=some (decide (d∈cq xs),()):=by
 obtain ⟨e,he,hq⟩:=dA (round:=eI) (x:=(xs,d,((0:Nat):Int),())) xs.length (fun k x=>x=(xs,d,((k:Nat):Int),())∧d∉cq (xs.take k)) (fun e=>(e=.inl ()∧d∉cq xs)∨(e=.inr (true,())∧d∈cq xs)) (by
   rintro x ⟨rfl,g⟩
   rw [List.take_length] at g;exact ⟨.inl (),by simp only [eI,kI,aM,cond_false],.inl ⟨rfl,g⟩⟩) (by
   rintro k x hk ⟨rfl,g⟩
   simp only [eI,kI,aD hk,ax,cond_true,aF,List.getElem?_eq_getElem hk,Option.bind_some,aN (show k<4611686018427387904 by omega)]
   by_cases e:xs[k].1=d
   ·rw [ak e];exact .inl ⟨_,rfl,.inr ⟨rfl,by rw [←e];exact List.mem_map_of_mem (List.getElem_mem hk)⟩⟩
   ·rw [aq e];refine .inr ⟨_,rfl,rfl,?_⟩;rw [List.take_succ_eq_append_getElem hk];unfold cq at g ⊢;rw [List.map_append,List.mem_append]
    rintro (h1 | h1)
    ·exact g h1
    ·simp only [List.map_cons,List.map_nil,List.mem_singleton] at h1;exact e h1.symm) ⟨rfl,by simp [cq]⟩
 have he:aI eI (xs,d,(0:Int),())=some e:=he;unfold dm;rw [he];rcases hq with ⟨rfl,g⟩ | ⟨rfl,g⟩
 ·rw [aq g];rfl
 ·rw [ak g];rfl
theorem L9 (d:Int) (xs:List (Int×Unit)) (h:xs.length≤1048576):dy xs d=some (decide (d∈cq xs),()):=by
 obtain ⟨b,h1,h2⟩:=oQ d xs h;rw [L8 d xs h] at h1;injection h1 with h1;injection h1 with h1 _;rw [h2,h1]
def hasB (list:aW) (s:Int):Bool:=(fk list s).isSome
theorem Bh (o:Option dY):(qK o).2.2.2.2.1=o.isSome:=by cases o<;>rfl
def Ma {B C:Type} (list:aW) (u:Int):Sum ((List (Int×Unit))×Unit) B→Sum ((List (Int×Unit))×Unit) C→Prop
 |.inl a,.inl b=>a=b∧∃ms:List Int,a.1=bF ms∧ms.length≤20∧∀s∈ms,1≤s∧s≤u∧hasB list s=false
 |_,_=>False
theorem D7 (list:aW) (upto u:Int) (n:Nat) (h:list.length≤1048576) (hn:n≤1048576) (hu:(if (60:Int)<upto then (60:Int) else upto)=u) (avV:u≤60) :
  ∃e f,aI iL (list,u,[],((n+1:Nat):Int),())=some e∧aI kc (list,upto,[],((n+1:Nat):Int),())=some f∧Ma list u e f:=by
 refine pW 61 (fun k x y=>∃ms:List Int,x=(list,u,bF ms,((n+1+k:Nat):Int),())∧y=(list,upto,bF ms,((n+1+k:Nat):Int),())∧ms.length≤20∧∀s∈ms,1≤s∧s≤u∧hasB list s=false) (Ma list u) ?_ ⟨[],rfl,rfl,by simp,fun s hs=>by cases hs⟩
 rintro k x y hk ⟨ms,rfl,rfl,q1,q2⟩
 have stop:Ma (B:=Unit) (C:=Unit) list u (.inl (bF ms,())) (.inl (bF ms,())):=⟨rfl,ms,rfl,q1,q2⟩
 by_cases dS:((n+1+k:Nat):Int)≤u
 case neg=>
  refine .inl ⟨.inl (bF ms,()),.inl (bF ms,()),?_,?_,⟨rfl,ms,rfl,q1,q2⟩⟩
  ·simp only [iL,aw,oY,aq dS,cond_false]
  ·simp only [kc,aw,o8,hu,aq dS,cond_false]
 by_cases ZU:((List.length (bF ms):Nat):Int)<20
 case neg=>
  refine .inl ⟨.inl (bF ms,()),.inl (bF ms,()),?_,?_,⟨rfl,ms,rfl,q1,q2⟩⟩
  ·simp only [iL,aw,oY,ak dS,aq ZU,cond_true,cond_false]
  ·simp only [kc,aw,o8,hu,ak dS,aq ZU,cond_true,cond_false]
 have hl:(bF ms).length=ms.length:=dP ms;simp only [iL,aw,oY,kc,aw,o8,hu,ak dS,ak ZU,cond_true,wJ list _ h,wK list _ h,Option.bind_some,Bh,aT (show ((bF ms).length+1)*8≤lim by unfold lim;omega),aN (show n+1+k<4611686018427387904 by omega)]
 cases hh:(fk list ((n+1+k:Nat):Int)).isSome
 ·refine .inr ⟨by omega,_,_,rfl,rfl,ms++[((n+1+k:Nat):Int)],by simp [bF];omega,by simp [bF];omega,by simp;omega,fun s hs => ?_⟩;rcases List.mem_append.1 hs with hs | hs
  ·exact q2 s hs
  ·rw [List.mem_singleton] at hs;subst hs;exact ⟨by omega,by omega,hh⟩
 ·exact .inr ⟨by omega,_,_,rfl,rfl,ms,by rw [show n+1+k+1=n+1+(k+1) by omega],by rw [show n+1+k+1=n+1+(k+1) by omega],q1,q2⟩
theorem N4 (list:aW) (upto:Int) (h:list.length≤1048576):∃ms:List Int,qc list upto=some (bF ms,())∧qE list upto=some (bF ms,())∧ms.length≤20∧∀s∈ms,1≤s∧(s≤60∧s≤upto)∧hasB list s=false:=by
 obtain ⟨n,a1,a2,a3,_⟩:=DZ list h;have hw:IntKind.i64.wrap (((n:Nat):Int)+(1:Int))=((n+1:Nat):Int):=aN (by omega);unfold qc qE;simp only [a1,a2,Option.bind_some,hw]
 by_cases hu:(60:Int)<upto
 ·obtain ⟨e,f,g1,g2,g3⟩:=D7 list upto 60 n h (by omega) (if_pos hu) (by omega);rw [ak hu];simp only [cond_true,g1,g2]
  cases e with
  |inr e=>exact g3.elim
  |inl e=>cases f with
   |inr f=>exact g3.elim
   |inl f=>
    obtain ⟨rfl,ms,k1,k2,k3⟩:=g3;simp only [kk];exact ⟨ms,by rw [k1],by rw [k1],k2,fun s hs=>⟨(k3 s hs).1,⟨(k3 s hs).2.1,by have:=(k3 s hs).2.1;omega⟩,(k3 s hs).2.2⟩⟩
 ·obtain ⟨e,f,g1,g2,g3⟩:=D7 list upto upto n h (by omega) (if_neg hu) (by omega);rw [aq hu];simp only [cond_false,g1,g2]
  cases e with
  |inr e=>exact g3.elim
  |inl e=>cases f with
   |inr f=>exact g3.elim
   |inl f=>
    obtain ⟨rfl,ms,k1,k2,k3⟩:=g3;simp only [kk];exact ⟨ms,by rw [k1],by rw [k1],k2,fun s hs=>⟨(k3 s hs).1,⟨by have:=(k3 s hs).2.1;omega,(k3 s hs).2.1⟩,(k3 s hs).2.2⟩⟩
theorem Iy:∀(a b:List Int),a.Pairwise (· < ·)→b.Pairwise (· < ·)→(∀x,x∈a↔x∈b)→a=b
 | [],[],_,_,_=>rfl
 | [],y::b,_,_,h=>absurd ((h y).2 List.mem_cons_self) (by simp)
 |x::a,[],_,_,h=>absurd ((h x).1 List.mem_cons_self) (by simp)
 |x::a,y::b,ha,hb,h=>by
  rw [List.pairwise_cons] at ha hb;have hxy:x=y:=by
   rcases List.mem_cons.1 ((h x).1 List.mem_cons_self) with e | e
   ·exact e
   ·have h1:=hb.1 x e;rcases List.mem_cons.1 ((h y).2 List.mem_cons_self) with e2 | e2
    ·exact e2.symm
    ·have h2:=ha.1 y e2;omega
  subst hxy
  congr 1
  refine Iy a b ha.2 hb.2 fun z=>⟨fun hz => ?_,fun hz => ?_⟩
  ·rcases List.mem_cons.1 ((h z).1 (List.mem_cons_of_mem _ hz)) with e | e
   ·have:=ha.1 z hz;omega
   ·exact e
  ·rcases List.mem_cons.1 ((h z).2 (List.mem_cons_of_mem _ hz)) with e | e
   ·have:=hb.1 z hz;omega
   ·exact e
theorem YR (l:List Int):(l.mergeSort fun x y=>decide (x≤y)).Pairwise (· ≤ ·):=by
 have:=List.pairwise_mergeSort (le:=fun x y:Int=>decide (x≤y)) (fun a b c h1 h2=>by simp only [decide_eq_true_eq] at *;omega) (fun a b=>by simp only [Bool.or_eq_true,decide_eq_true_eq];omega) l;exact this.imp fun h=>by simpa using h
theorem WX (l:List Int) (x:Int):x∈(l.mergeSort fun x y=>decide (x≤y))↔x∈l:=(List.mergeSort_perm l _).mem_iff
theorem xV (l:List Int) (j:Nat) (h:j<l.length):l.toArray[j]! = l[j]:=by
 rw [getElem!_pos l.toArray j (by simpa using h)];simp
theorem Iz (l:List Int) (h:l.Pairwise (· ≤ ·)):(Lib.compact l).Pairwise (· < ·):=by
 unfold Lib.compact Lib.compactUpTo;rw [List.pairwise_map];have hr:((List.range l.length).filter (Lib.keeps l.toArray)).Pairwise (· < ·):=List.Pairwise.filter _ List.pairwise_lt_range;refine hr.imp_of_mem fun {i j} hi hj X2 => ?_
 obtain ⟨hi1,_⟩:=List.mem_filter.1 hi;obtain ⟨Xt,Ve⟩:=List.mem_filter.1 hj;have hi1:=List.mem_range.1 hi1;have Xt:=List.mem_range.1 Xt;have hk:l.toArray[j]! ≠ l.toArray[j-1]! := by
  unfold Lib.keeps at Ve;rw [decide_eq_true_eq] at Ve;exact Ve.resolve_left (by omega)
 have hp:=List.pairwise_iff_getElem.1 h;have h1:=hp (j-1) j (by omega) Xt (by omega);rw [xV l j Xt,xV l (j-1) (by omega)] at hk;rw [xV l i hi1,xV l j Xt]
 by_cases e:i=j-1
 ·subst e;omega
 ·have h2:=hp i (j-1) hi1 (by omega) (by omega);omega
theorem N5 (l:List Int) (x:Int):x∈Lib.compact l↔x∈l:=by
 unfold Lib.compact Lib.compactUpTo;rw [List.mem_map]
 constructor
 ·rintro ⟨j,hj,rfl⟩
  have Xt:=List.mem_range.1 (List.mem_filter.1 hj).1;rw [xV l j Xt];exact List.getElem_mem Xt
 ·intro hx;have key:∀j,j<l.length→∃i,i∈(List.range l.length).filter (Lib.keeps l.toArray)∧l.toArray[i]! = l.toArray[j]! := by
   intro j
   induction j with
   |zero=>intro h0;exact ⟨0,List.mem_filter.2 ⟨List.mem_range.2 h0,by simp [Lib.keeps]⟩,rfl⟩
   |succ j ih=>
    intro hj
    by_cases e:l.toArray[j+1]! = l.toArray[j]!
    ·obtain ⟨i,h1,h2⟩:=ih (by omega);exact ⟨i,h1,by rw [h2,e]⟩
    ·exact ⟨j+1,List.mem_filter.2 ⟨List.mem_range.2 hj,by unfold Lib.keeps;rw [decide_eq_true_eq,Nat.add_sub_cancel];exact .inr e⟩,rfl⟩
  obtain ⟨j,hj,rfl⟩:=List.mem_iff_getElem.1 hx;obtain ⟨i,h1,h2⟩:=key j hj;exact ⟨i,h1,by rw [h2,xV l j hj]⟩
def ints (n:Nat):List Int:=(List.range n).map fun i=>((i+1:Nat):Int)
theorem KY (n:Nat):ints (n+1)=ints n++[((n+1:Nat):Int)]:=by
 unfold ints;rw [List.range_succ,List.map_append];rfl
theorem WY (n:Nat) (x:Int):x∈ints n↔1≤x∧x≤((n:Nat):Int):=by
 unfold ints;rw [List.mem_map]
 constructor
 ·rintro ⟨i,hi,rfl⟩
  have:=List.mem_range.1 hi;omega
 ·rintro ⟨h1,h2⟩
  exact ⟨(x-1).toNat,List.mem_range.2 (by omega),by omega⟩
theorem F2 (n:Nat):(ints n).Pairwise (· < ·):=by
 unfold ints;rw [List.pairwise_map];exact List.pairwise_lt_range.imp fun h=>by omega
theorem IA:∀(k d:Nat),∃r,ints (k+d)=ints k++r
 |k,0=>⟨[],by simp⟩
 |k,d+1=>by
  obtain ⟨r,h⟩:=IA k d;exact ⟨r++[((k+d+1:Nat):Int)],by rw [show k+(d+1)=(k+d)+1 by omega,KY,h,List.append_assoc]⟩
theorem Qa (a b:List Int):bF (a++b)=bF a++bF b:=by simp [bF]
theorem N6 (a:List Int) (n:Nat):bF (a.take n)=(bF a).take n:=by simp [bF,List.map_take]
theorem sr (a:List Int):cq (bF a)=a:=by simp [cq,bF,Function.comp_def]
def jg (list:aW) (xs:List (Int×Unit)) (ms:List Int) (s:Int):Bool:=(!hasB list s&&decide (s∈cq xs))||decide (s∈ms)
def mw (list:aW) (xs:List (Int×Unit)) (ms:List Int):List Int:=((ints 60).filter (jg list xs ms)).take 20
abbrev ZV:Type:=aW×Int×Int×Int×Int×Int×(List (Int×Unit))×Int×Int×Int×Int×Int×(List (Int×Unit))×Int×Int×Int×Int×Int×(List (Int×Unit))×(List (Int×Unit))×Int×Unit
theorem Qb (t0 t1 t2 t3 t4:Int) (xs:List (Int×Unit)) (list:aW) (ms:List Int) (h:list.length≤1048576) (hx:xs.length≤1048576) (hm:qc list t2=some (bF ms,())) (hms:ms.length≤20) :
  ey t0 t1 t2 t3 t4 xs list=some (t0,t1,t2,t3,t4,bF (mw list xs ms),()):=by
 have Xz:(bF ms).length≤1048576:=by rw [dP];omega
 obtain ⟨e,he,rfl⟩:=dA (round:=mA) (x:=(list,t0,t1,t2,t3,t4,xs,(0:Int),(0:Int),(0:Int),(0:Int),(0:Int),[],t0,t1,t2,t3,t4,[],bF ms,((0+1:Nat):Int),())) 60
  (fun k x=>x=(list,t0,t1,t2,t3,t4,xs,(0:Int),(0:Int),(0:Int),(0:Int),(0:Int),[],t0,t1,t2,t3,t4,bF ((ints k).filter (jg list xs ms)),bF ms,((k+1:Nat):Int),())∧((ints k).filter (jg list xs ms)).length≤20)
  (fun e=>e=.inl ((0:Int),(0:Int),(0:Int),(0:Int),(0:Int),[],t0,t1,t2,t3,t4,bF (mw list xs ms),())) (by
   rintro x ⟨rfl,g⟩
   refine ⟨_,?_,rfl⟩;simp only [mA,ba,aw,sg,aq (show ¬((60+1:Nat):Int)≤(60:Int) by omega),cond_false];unfold mw;rw [List.take_of_length_le g]) (by
   rintro k x hk ⟨rfl,g⟩
   have hle:((k+1:Nat):Int)≤(60:Int):=by omega
   have hl:=dP ((ints k).filter (jg list xs ms))
   by_cases ZU:((List.length (bF ((ints k).filter (jg list xs ms))):Nat):Int)<20
   case neg=>
    refine .inl ⟨_,?_,rfl⟩;simp only [mA,ba,aw,sg,ak hle,aq ZU,cond_true,cond_false];have:mw list xs ms=(ints k).filter (jg list xs ms):=by
     unfold mw;obtain ⟨r,hr⟩:=IA k (60-k);rw [show k+(60-k)=60 by omega] at hr;rw [hr,List.filter_append];exact List.take_left' (by omega)
    rw [this]
   have KZ:(ints (k+1)).filter (jg list xs ms)=(ints k).filter (jg list xs ms)++(if jg list xs ms ((k+1:Nat):Int) then [((k+1:Nat):Int)] else []):=by
    rw [KY,List.filter_append];rw [List.filter_cons,List.filter_nil]
   have arA:=L8 ((k+1:Nat):Int) xs hx;have akB:=L8 ((k+1:Nat):Int) (bF ms) Xz;rw [sr] at akB;have hb:Nat.ble (((bF ((ints k).filter (jg list xs ms))).length+1)*8) lim=true:=aT (by unfold lim;omega);have hsw:=aN (show k+1<4611686018427387904 by omega);simp only [mA,ba,aw,sg,ak hle,ak ZU,cond_true,wJ list _ h,Option.bind_some,Bh,arA,akB,hb,hsw];have yes:jg list xs ms ((k+1:Nat):Int)=true→∃x':ZV,x'=(list,t0,t1,t2,t3,t4,xs,(0:Int),(0:Int),(0:Int),(0:Int),(0:Int),[],t0,t1,t2,t3,t4,bF ((ints k).filter (jg list xs ms))++[(((k+1:Nat):Int),())],bF ms,((k+1+1:Nat):Int),())∧
     (x'=(list,t0,t1,t2,t3,t4,xs,(0:Int),(0:Int),(0:Int),(0:Int),(0:Int),[],t0,t1,t2,t3,t4,bF ((ints (k+1)).filter (jg list xs ms)),bF ms,((k+1+1:Nat):Int),())∧((ints (k+1)).filter (jg list xs ms)).length≤20):=by
    intro hp;refine ⟨_,rfl,?_,?_⟩
    ·rw [KZ,hp,if_pos rfl,Qa];rfl
    ·rw [KZ,hp,if_pos rfl,List.length_append];simp;omega
   have no:jg list xs ms ((k+1:Nat):Int)=false→∃x':ZV,x'=(list,t0,t1,t2,t3,t4,xs,(0:Int),(0:Int),(0:Int),(0:Int),(0:Int),[],t0,t1,t2,t3,t4,bF ((ints k).filter (jg list xs ms)),bF ms,((k+1+1:Nat):Int),())∧
     (x'=(list,t0,t1,t2,t3,t4,xs,(0:Int),(0:Int),(0:Int),(0:Int),(0:Int),[],t0,t1,t2,t3,t4,bF ((ints (k+1)).filter (jg list xs ms)),bF ms,((k+1+1:Nat):Int),())∧((ints (k+1)).filter (jg list xs ms)).length≤20):=by
    intro hp;refine ⟨_,rfl,?_,?_⟩
    ·rw [KZ,hp];simp
    ·rw [KZ,hp];simp;omega
   have Mb:jg list xs ms ((k+1:Nat):Int)=((!(fk list ((k+1:Nat):Int)).isSome&&decide (((k+1:Nat):Int)∈cq xs))||decide (((k+1:Nat):Int)∈ms)):=rfl
   cases c1:(fk list ((k+1:Nat):Int)).isSome
   ·cases c2:decide (((k+1:Nat):Int)∈cq xs)
    ·cases c3:decide (((k+1:Nat):Int)∈ms)
     ·obtain ⟨x',g1,g2⟩:=no (by rw [Mb,c1,c2,c3];rfl);exact .inr ⟨x',by rw [g1];rfl,g2⟩
     ·obtain ⟨x',g1,g2⟩:=yes (by rw [Mb,c1,c2,c3];rfl);exact .inr ⟨x',by rw [g1];rfl,g2⟩
    ·obtain ⟨x',g1,g2⟩:=yes (by rw [Mb,c1,c2];rfl);exact .inr ⟨x',by rw [g1];rfl,g2⟩
   ·cases c3:decide (((k+1:Nat):Int)∈ms)
    ·obtain ⟨x',g1,g2⟩:=no (by rw [Mb,c1,c3];rfl);exact .inr ⟨x',by rw [g1];rfl,g2⟩
    ·obtain ⟨x',g1,g2⟩:=yes (by rw [Mb,c1,c3];rfl);exact .inr ⟨x',by rw [g1];rfl,g2⟩) ⟨rfl,by simp [ints]⟩
 unfold ey;rw [hm];simp only [Option.bind_some];rw [show (1:Int)=((0+1:Nat):Int) from rfl,he];rfl
def tQ (list:aW) (s:Int):Bool := !hasB list s&&(decide (1≤s)&&decide (s≤60))
theorem Qc (t0 t1 t2 t3 t4:Int) (xs:List (Int×Unit)) (list:aW) (ms:List Int) (h:list.length≤1048576) (hx:xs.length≤1048576) (hm:qE list t2=some (bF ms,())) (hms:ms.length≤20) (hmp:∀s∈ms,1≤s∧s≤60∧hasB list s=false) :
  vO t0 t1 t2 t3 t4 xs list=some (t0,t1,t2,t3,t4,bF (mw list xs ms),()):=by
 have Ri:=ca (round:=mD) (e:=.inl ((0:Int),(0:Int),(0:Int),(0:Int),(0:Int),[],t0,t1,t2,t3,t4,xs,bF (ms++(cq xs).filter (tQ list)),())) xs.length
  (fun k=>(list,(0:Int),(0:Int),(0:Int),(0:Int),(0:Int),[],t0,t1,t2,t3,t4,xs,bF (ms++(cq (xs.take k)).filter (tQ list)),xs,((List.length xs:Nat):Int),((k:Nat):Int),())) (by
   simp only [mD,ba,xc,aM,cond_false,List.take_length]) (fun k hk=>by
   have hfl:((cq (xs.take k)).filter (tQ list)).length≤1048576:=by
    have h1:=List.length_filter_le (tQ list) (cq (xs.take k));have h2:=kD (xs.take k);rw [List.length_take] at h2;omega
   have hl:=dP (ms++(cq (xs.take k)).filter (tQ list));rw [List.length_append] at hl;have KZ:(cq (xs.take (k+1))).filter (tQ list)=(cq (xs.take k)).filter (tQ list)++(if tQ list xs[k].1 then [xs[k].1] else []):=by
    rw [List.take_succ_eq_append_getElem hk];unfold cq;rw [List.map_append,List.filter_append,List.map_cons,List.map_nil,List.filter_cons,List.filter_nil]
   have Mb:tQ list xs[k].1=(!(fk list xs[k].1).isSome&&(decide (1≤xs[k].1)&&decide (xs[k].1≤60))):=rfl;simp only [mD,ba,xc,aD hk,ax,cond_true,aF,List.getElem?_eq_getElem hk,Option.bind_some,wK list _ h,Bh,vY,aT (show ((bF (ms++(cq (xs.take k)).filter (tQ list))).length+1)*8≤lim by unfold lim;omega),aN (show k<4611686018427387904 by omega),KZ]
   cases c1:(fk list xs[k].1).isSome
   ·cases c2:(decide (1≤xs[k].1)&&decide (xs[k].1≤60))
    ·rw [Mb,c1,c2];simp
    ·rw [Mb,c1,c2];simp [bF]
   ·rw [Mb,c1];simp)
 have Ri:aI mD (list,(0:Int),(0:Int),(0:Int),(0:Int),(0:Int),[],t0,t1,t2,t3,t4,xs,bF (ms++(cq (xs.take 0)).filter (tQ list)),xs,((List.length xs:Nat):Int),(0:Int),())=_:=Ri;rw [show ms++(cq (xs.take 0)).filter (tQ list)=ms by simp [cq]] at Ri;have c2:fi t0 t1 t2 t3 t4 xs=some (t0,t1,t2,t3,t4,xs,()):=by
  unfold fi;rw [lA xs hx];rfl
 have hwl:(ms++(cq xs).filter (tQ list)).length≤1048576+20:=by
  rw [List.length_append];have h1:=List.length_filter_le (tQ list) (cq xs);have h2:=kD xs;omega
 generalize hW:ms++(cq xs).filter (tQ list)=W at *;have akC:HE (bF W)=some (bF (W.mergeSort fun x y=>decide (x≤y)),()):=by
  unfold HE;rw [aT (show (bF W).length≤lim by rw [dP];unfold lim;omega),sr];rfl
 have ZW:pX (bF (W.mergeSort fun x y=>decide (x≤y)))=some (bF (Lib.compact (W.mergeSort fun x y=>decide (x≤y))),()):=by
  unfold pX;rw [aT (show (bF (W.mergeSort fun x y=>decide (x≤y))).length≤lim by rw [dP,List.length_mergeSort];unfold lim;omega),sr];rfl
 have hC:Lib.compact (W.mergeSort fun x y=>decide (x≤y))=(ints 60).filter (jg list xs ms):=by
  refine Iy _ _ (Iz _ (YR W)) ((F2 60).filter _) fun z => ?_
  rw [N5,WX,←hW,List.mem_append,List.mem_filter,List.mem_filter,WY];unfold tQ jg;simp only [Bool.and_eq_true,Bool.or_eq_true,decide_eq_true_eq,Bool.not_eq_true']
  constructor
  ·rintro (h1 | ⟨h1,h2,h3,h4⟩)
   ·exact ⟨⟨(hmp z h1).1,(hmp z h1).2.1⟩,.inr h1⟩
   ·exact ⟨⟨h3,h4⟩,.inl ⟨h2,h1⟩⟩
  ·rintro ⟨⟨h3,h4⟩,⟨h2,h1⟩ | h1⟩
   ·exact .inr ⟨h1,h2,h3,h4⟩
   ·exact .inl h1
 rw [hC] at ZW;have hCl:((ints 60).filter (jg list xs ms)).length≤60:=Nat.le_trans (List.length_filter_le _ _) (by simp [ints]);have arB:(if (20:Int)<((List.length (bF ((ints 60).filter (jg list xs ms))):Nat):Int) then (20:Int) else ((List.length (bF ((ints 60).filter (jg list xs ms))):Nat):Int))=((min 20 ((ints 60).filter (jg list xs ms)).length:Nat):Int):=by
  rw [dP]
  split<;>omega
 have akD:List.take (min 20 ((ints 60).filter (jg list xs ms)).length) (bF ((ints 60).filter (jg list xs ms)))=bF (mw list xs ms):=by
  unfold mw;rw [N6]
  by_cases ZU:20≤((ints 60).filter (jg list xs ms)).length
  ·rw [Nat.min_eq_left ZU]
  ·rw [Nat.min_eq_right (by omega),List.take_of_length_le (by rw [dP];omega),List.take_of_length_le (by rw [dP];omega)]
 have Ap:=lA (bF (mw list xs ms)) (by rw [dP];unfold mw;rw [List.length_take];omega);unfold vO;delta aA bA;rw [c2,hm];simp only [Option.bind_some];rw [Ri];simp only [kk,akC,ZW,Option.bind_some,arB,ax,cond_true,aF,List.drop_zero,akD,Ap,ak (show ((min 20 ((ints 60).filter (jg list xs ms)).length:Nat):Int)≤((List.length (bF ((ints 60).filter (jg list xs ms))):Nat):Int) by rw [dP];omega)]
end Go.TM
set_option linter.unusedSimpArgs false
set_option linter.unusedVariables false
namespace Go.TM
open Go
theorem Rj {xs:aW} {s:Int}:hasB xs s=true↔∃r∈xs,r.1=s:=by
 unfold hasB fk;rw [List.find?_isSome];simp only [decide_eq_true_eq]
theorem Fi {r m:dY}:{xs:aW}→r∈xs→r∈nc xs m
 | [],h=>by cases h
 |x::xs,h=>by
  unfold nc
  split
  ·rcases List.mem_cons.1 h with rfl | h
   ·exact List.mem_cons_self
   ·exact List.mem_cons_of_mem _ (Fi h)
  ·split
   ·exact h
   ·exact List.mem_cons_of_mem _ h
theorem N7 {xs ys:aW} (hx:xs.length≤1048576) (hy:ys.length≤1048576) (h:∀r∈xs,∃q∈ys,q.1=r.1):dB xs≤dB ys:=by
 obtain ⟨_,a1,_⟩:=(zu xs hx).2.2;obtain ⟨_,_,b2⟩:=(zu ys hy).2.2
 by_cases dS:dB ys<dB xs
 ·have h1:=a1 _ dS;obtain ⟨r,hr,e⟩:=Rj.1 h1;obtain ⟨q,hq,e2⟩:=h r hr;have:hasB ys ((dB ys+1:Nat):Int)=true:=Rj.2 ⟨q,hq,e2.trans e⟩;unfold hasB at this;rw [b2] at this
  cases this
 ·omega
def cQ (xs:aW) (fs:aW):aW:=fs.foldl nc xs
theorem uF:(fs:aW)→{xs:aW}→eV xs xs.length→(∀f∈fs,pH f)→eV (cQ xs fs) (cQ xs fs).length
 | [],_,h,_=>h
 |f::fs,_,h,hf=>uF fs (zv h (hf f List.mem_cons_self)) fun g hg=>hf g (List.mem_cons_of_mem _ hg)
theorem F3 {r:dY}:(fs:aW)→{xs:aW}→r∈xs→r∈cQ xs fs
 | [],_,h=>h
 |_::fs,_,h=>F3 fs (Fi h)
theorem Qd {c2 d:Int} {lv:eA} {tx:List (ByteArray×Unit)} {k j:Nat} (hc:0≤c2∧c2+((k:Nat):Int)≤60) (hd:1≤d∧d≤5) (hk:k≤tx.length) (hs:kx tx tx.length) (hj:j<k):pH (Gv c2 d lv tx j):=by
 have h1:j<tx.length:=by omega
 have hgt:(tx.getD j (ByteArray.empty,())).1=tx[j].1:=by rw [List.getD_eq_getElem?_getD,List.getElem?_eq_getElem h1,Option.getD_some]
 refine ⟨⟨?_,?_⟩,hd,?_,?_⟩
 ·show 1≤c2+((j+1:Nat):Int);omega
 ·show c2+((j+1:Nat):Int)≤60;omega
 ·show 1≤(bif decide (j<lv.length)&&decide ((lv.getD j ((0:Int),())).1=2) then (2:Int) else 1)∧(bif decide (j<lv.length)&&decide ((lv.getD j ((0:Int),())).1=2) then (2:Int) else 1)≤2
  cases decide (j<lv.length)&&decide ((lv.getD j ((0:Int),())).1=2)<;>decide
 ·show ByteArray.size (tx.getD j (ByteArray.empty,())).1≤60;rw [hgt];exact hs j h1 h1
theorem F4 {c2 d:Int} {lv:eA} {tx:List (ByteArray×Unit)} {k:Nat} (hc:0≤c2∧c2+((k:Nat):Int)≤60) (hd:1≤d∧d≤5) (hk:k≤tx.length) (hs:kx tx tx.length):∀f∈iy c2 d lv tx k,pH f:=by
 intro f hf;unfold iy at hf;obtain ⟨j,hj,rfl⟩:=List.mem_map.1 hf;exact Qd hc hd hk hs (List.mem_range.1 hj)
def wN (t:mR) (xs:aW):aW:=xs.filter fun r=>decide (r.1∈cq t.2.2.2.2.2.1)
theorem WZ (t:mR) (xs:aW) (h:xs.length≤1048576) (hw:t.2.2.2.2.2.1.length≤1048576):xC t.1 t.2.1 t.2.2.1 t.2.2.2.1 t.2.2.2.2.1 t.2.2.2.2.2.1 xs=some (wN t xs,())∧xK t.1 t.2.1 t.2.2.1 t.2.2.2.1 t.2.2.2.2.1 t.2.2.2.2.2.1 xs=some (wN t xs,()):=by
 have hlen:∀k,((xs.take k).filter fun r=>decide (r.1∈cq t.2.2.2.2.2.1)).length≤k:=fun k=>Nat.le_trans (List.length_filter_le _ _) (List.length_take_le _ _)
 constructor
 ·have hl:=ca (round:=nS) (e:=.inl (wN t xs,())) xs.length (fun k=>(xs,t.1,t.2.1,t.2.2.1,t.2.2.2.1,t.2.2.2.2.1,t.2.2.2.2.2.1,(xs.take k).filter (fun r=>decide (r.1∈cq t.2.2.2.2.2.1)),((k:Nat):Int),())) (by
   simp only [nS,bC,yk,aA,aM,cond_false,List.take_length,wN]) (fun k hk=>by
   have Ll:=hlen k;simp only [nS,bC,yk,aA,aD hk,ax,cond_true,aF,List.getElem?_eq_getElem hk,Option.bind_some,L8 _ _ hw,aT (show (((xs.take k).filter fun r=>decide (r.1∈cq t.2.2.2.2.2.1)).length+1)*40≤lim by unfold lim;omega),aN (show k<4611686018427387904 by omega)];rw [List.take_succ_eq_append_getElem hk,List.filter_append]
   cases hp:decide (xs[k].1∈cq t.2.2.2.2.2.1)
   ·rw [List.filter_cons_of_neg (by rw [hp];simp)];simp
   ·rw [List.filter_cons_of_pos (by rw [hp])];rfl)
  have hl:aI nS (xs,t.1,t.2.1,t.2.2.1,t.2.2.2.1,t.2.2.2.2.1,t.2.2.2.2.2.1,[],(0:Int),())=_:=hl;unfold xC;rw [hl];rfl
 ·have hl:=ca (round:=nY) (e:=.inl (wN t xs,())) xs.length (fun k=>(t.1,t.2.1,t.2.2.1,t.2.2.2.1,t.2.2.2.2.1,t.2.2.2.2.2.1,(xs.take k).filter (fun r=>decide (r.1∈cq t.2.2.2.2.2.1)),xs,((List.length xs:Nat):Int),((k:Nat):Int),())) (by
   simp only [nY,bC,yZ,aA,aM,cond_false,List.take_length,wN]) (fun k hk=>by
   have Ll:=hlen k;simp only [nY,bC,yZ,aA,aD hk,ax,cond_true,aF,List.getElem?_eq_getElem hk,Option.bind_some,L9 _ _ hw,aT (show (((xs.take k).filter fun r=>decide (r.1∈cq t.2.2.2.2.2.1)).length+1)*40≤lim by unfold lim;omega),aN (show k<4611686018427387904 by omega)];rw [List.take_succ_eq_append_getElem hk,List.filter_append]
   cases hp:decide (xs[k].1∈cq t.2.2.2.2.2.1)
   ·rw [List.filter_cons_of_neg (by rw [hp];simp)];simp
   ·rw [List.filter_cons_of_pos (by rw [hp])];rfl)
  have hl:aI nY (t.1,t.2.1,t.2.2.1,t.2.2.2.1,t.2.2.2.2.1,t.2.2.2.2.2.1,[],xs,((List.length xs:Nat):Int),(0:Int),())=_:=hl;unfold xK;rw [hl];rfl
theorem W0 {t:mR} {xs:aW} {r:dY} (h:r∈wN t xs):r∈xs:=(List.mem_filter.1 h).1
theorem W2 (t:mR) (xs:aW):(wN t xs).length≤xs.length:=List.length_filter_le _ _
end Go.TM
