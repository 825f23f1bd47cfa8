/- Sizes, copies, sameness: what the laws' own helping functions answer. -/
import Derived.Test.YtiljcjnnhkidbaaGreatMF3
set_option linter.unusedSimpArgs false
set_option linter.unusedVariables false
namespace Go.TM
open Go
def jV (_:Int×Unit):Nat:=0
def Bn (x:Int×aD×Unit):Nat:=(List.length x.2.1+wl jV x.2.1)
def dJ (x:sR):Nat:=ByteArray.size x.2.2.2.1
def Jx (x:ByteArray×Unit):Nat:=ByteArray.size x.1
def ef (x:lX):Nat:=(List.length x.2.2.2.1+wl dJ x.2.2.2.1)
def bt (x:vm):Nat:=(List.length x.2.2.1+wl jV x.2.2.1)+ByteArray.size x.2.2.2.2.2.2.1+(List.length x.2.2.2.2.2.2.2.1+wl jV x.2.2.2.2.2.2.2.1)
end Go.TM
set_option linter.unusedSimpArgs false
set_option linter.unusedVariables false
namespace Go.TM
open Go
def Xu (y:Int×Unit):UInt8:=UInt8.ofNat y.1.toNat
theorem Mn (ys:List (Int×Unit)):(bytesOf ys).data.toList=ys.map Xu:=by
 have key:∀(ys:List (Int×Unit)) (s:ByteArray),(List.foldl (fun (r:ByteArray) (y:Int×Unit)=>r.push (UInt8.ofNat y.1.toNat)) s ys).data.toList=s.data.toList++ys.map Xu:=by
  intro ys
  induction ys with
  |nil=>intro s;simp
  |cons y ys ih=>
   intro s;rw [List.foldl_cons,ih];simp [Xu]
 have:=key ys ByteArray.empty;exact this
theorem D9 (ys:List (Int×Unit)):(bytesOf ys).size=ys.length:=by
 have h1:(bytesOf ys).data.toList.length=(bytesOf ys).size:=Array.length_toList;rw [←h1,Mn,List.length_map]
end Go.TM
set_option linter.unusedSimpArgs false
set_option linter.unusedVariables false
namespace Go.TM
open Go
theorem Xv {p:Prop} {i:Decidable p} (h:p):@decide p i=true:=decide_eq_true h
theorem Ub {p:Prop} {i:Decidable p} (h:¬p):@decide p i=false:=decide_eq_false h
theorem ID {α:Type} (f:α→Nat) (c:Nat):(xs:List α)→(∀x∈xs,f x≤c)→wl f xs≤c*xs.length
 | [],_=>Nat.zero_le _
 |x::xs,h=>by
  rw [sf,List.length_cons,Nat.mul_succ];have:=ID f c xs (fun y hy=>h y (List.mem_cons_of_mem _ hy));have:=h x List.mem_cons_self;omega
end Go.TM
set_option linter.unusedSimpArgs false
set_option linter.unusedVariables false
namespace Go.TM
open Go
theorem mG (a b c:Int):bO a b c=some (decide (b≤a)&&decide (a≤c),()):=by
 unfold bO
 cases decide (b≤a)<;>rfl
theorem wa (a b c:Int):cE a b c=some (decide (b≤a)&&decide (a≤c),()):=by
 unfold cE
 cases decide (b≤a)<;>rfl
theorem pS (a:Int):iz a=some (decide (1≤a)&&decide (a≤5),()):=by
 unfold iz;rw [wa];rfl
def GO {A B:Type}:Sum A (Bool×Unit)→Sum B (Bool×Unit)→Prop
 |.inl _,.inl _=>True
 |.inr a,.inr b=>a.1=b.1
 |_,_=>False
theorem uV {k:Nat} (h0:0<k) (h:k<4611686018427387904):IntKind.i64.wrap (((k:Nat):Int)-(1:Int))=(((k-1:Nat)):Int):=by
 rw [cD]<;>omega
theorem Uc (c:Int) (xs:List (Int×Unit)) (h:xs.length≤1048576) :
  ∃e f,aJ gx (c,xs,(0:Int),())=some e∧aJ nN (c,xs,xs,((List.length xs:Nat):Int),(0:Int),())=some f∧GO e f:=by
 refine qj xs.length (fun k x y=>x=(c,xs,((k:Nat):Int),())∧y=(c,xs,xs,((List.length xs:Nat):Int),((k:Nat):Int),())) GO ?_ ⟨rfl,rfl⟩
 rintro k x y hk ⟨rfl,rfl⟩
 by_cases dM:k<xs.length
 ·simp only [gx,nG,nN,aw,vP,aE dM,ax,cond_true,aF,List.getElem?_eq_getElem dM,Option.bind_some,mG,pS,aN (show k<4611686018427387904 by omega)]
  cases (decide (1≤xs[k].1)&&decide (xs[k].1≤5))
  ·exact .inl ⟨.inr (false,()),.inr (false,()),rfl,rfl,rfl⟩
  ·by_cases h0:0<k
   ·have hp:k-1<xs.length:=by omega
    rw [uV h0 (by omega)];simp only [ak (show (0:Int)<((k:Nat):Int) by omega),Bool.not_true,cond_false,cond_true,ax,aF,List.getElem?_eq_getElem hp,Option.bind_some]
    cases decide (xs[k].1≤xs[k-1].1)
    ·exact .inr ⟨dM,_,_,rfl,rfl,rfl,rfl⟩
    ·exact .inl ⟨.inr (false,()),.inr (false,()),rfl,rfl,rfl⟩
   ·have:k=0:=by omega
    subst this;simp only [aq (show ¬(0:Int)<((0:Nat):Int) by omega),Bool.not_true,cond_false];exact .inr ⟨dM,_,_,rfl,rfl,rfl,rfl⟩
 ·have:k=xs.length:=by omega
  subst this;exact .inl ⟨.inl (),.inl (),by simp only [gx,nG,aM,cond_false],by simp only [nN,aw,vP,aM,cond_false],trivial⟩
theorem BO (c:Int) (xs:List (Int×Unit)) (h:xs.length≤1048576):∃b,ee c xs=some (b,())∧gV c xs=some (b,())∧(b=true→1≤xs.length∧xs.length≤5):=by
 obtain ⟨e,f,h1,h2,h3⟩:=Uc c xs h;unfold ee gV;simp only [mG,wa,Option.bind_some,h1,h2]
 cases (decide (1≤c)&&decide (c≤9))
 ·exact ⟨false,rfl,rfl,fun h=>by cases h⟩
 cases hb:(decide (1≤((List.length xs:Nat):Int))&&decide (((List.length xs:Nat):Int)≤5))
 ·exact ⟨false,rfl,rfl,fun h=>by cases h⟩
 have hl:1≤xs.length∧xs.length≤5:=by
  rw [Bool.and_eq_true,decide_eq_true_eq,decide_eq_true_eq] at hb;omega
 cases e with
 |inl e=>cases f with
  |inl f=>exact ⟨true,rfl,rfl,fun _=>hl⟩
  |inr f=>exact h3.elim
 |inr e=>cases f with
  |inl f=>exact h3.elim
  |inr f=>exact ⟨e.1,rfl,by rw [show e.1=f.1 from h3];rfl,fun _=>hl⟩
end Go.TM
set_option linter.unusedSimpArgs false
set_option linter.unusedVariables false
namespace Go.TM
open Go
def aaK (e:Sum Unit (Bool×Unit)) (f:Sum Unit (Int×Unit)):Prop:=∃b,(e=.inl ()∧f=.inl ()∧b=false)∨(e=.inr (true,())∧(∃k:Nat,f=.inr (((k:Nat):Int),()))∧b=true)
theorem ZC (d:Int) (xs:List (Int×Unit)) (h:xs.length≤1048576) :
  ∃e f,aJ eQ (xs,d,(0:Int),())=some e∧aJ ji (xs,d,((List.length xs:Nat):Int),(0:Int),())=some f∧aaK e f:=by
 refine qj xs.length (fun k x y=>x=(xs,d,((k:Nat):Int),())∧y=(xs,d,((List.length xs:Nat):Int),((k:Nat):Int),())) aaK ?_ ⟨rfl,rfl⟩
 rintro k x y hk ⟨rfl,rfl⟩
 by_cases dM:k<xs.length
 ·simp only [eQ,kW,ji,aw,oQ,aE dM,ax,cond_true,aF,List.getElem?_eq_getElem dM,Option.bind_some,aN (show k<4611686018427387904 by omega)]
  by_cases hd:xs[k].1=d
  ·rw [ak hd,ak hd.symm];exact .inl ⟨.inr (true,()),.inr (((k:Nat):Int),()),rfl,rfl,true,.inr ⟨rfl,⟨k,rfl⟩,rfl⟩⟩
  ·rw [aq hd,aq (fun e=>hd e.symm)];exact .inr ⟨dM,_,_,rfl,rfl,rfl,rfl⟩
 ·have:k=xs.length:=by omega
  subst this;exact .inl ⟨.inl (),.inl (),by simp only [eQ,kW,aM,cond_false],by simp only [ji,aw,oQ,aM,cond_false],false,.inl ⟨rfl,rfl,rfl⟩⟩
theorem ph (d:Int) (xs:List (Int×Unit)) (h:xs.length≤1048576):∃b,dx xs d=some (b,())∧cN xs d=some (b,()):=by
 obtain ⟨e,f,h1,h2,b,h3⟩:=ZC d xs h;unfold dx cN rR;rw [h1,h2];rcases h3 with ⟨rfl,rfl,rfl⟩ | ⟨rfl,⟨k,rfl⟩,rfl⟩
 ·exact ⟨false,rfl,rfl⟩
 ·refine ⟨true,rfl,?_⟩;simp only [cg,Option.bind_some,ax]
end Go.TM
set_option linter.unusedSimpArgs false
set_option linter.unusedVariables false
namespace Go.TM
open Go
def Xw (t:Int×Int×Int×Int×Int×(List (Int×Unit))×Unit):Sum Unit (Bool×Unit)→Sum (Int×Int×Int×Int×Int×(List (Int×Unit))×Unit) (Bool×Unit)→Prop
 |.inl _,.inl z=>z=t
 |.inr a,.inr b=>a.1=false∧b.1=false
 |_,_=>False
theorem Qs (c0 c1 c2 c3 c4:Int) (xs:List (Int×Unit)) (h:xs.length≤1048576) :
  ∃e f,aJ fX (c0,c1,c2,c3,c4,xs,(0:Int),())=some e∧aJ mE (c0,c1,c2,c3,c4,xs,xs,((List.length xs:Nat):Int),(0:Int),())=some f∧Xw (c0,c1,c2,c3,c4,xs,()) e f:=by
 refine qj xs.length (fun k x y=>x=(c0,c1,c2,c3,c4,xs,((k:Nat):Int),())∧y=(c0,c1,c2,c3,c4,xs,xs,((List.length xs:Nat):Int),((k:Nat):Int),())) (Xw (c0,c1,c2,c3,c4,xs,())) ?_ ⟨rfl,rfl⟩
 rintro k x y hk ⟨rfl,rfl⟩
 by_cases dM:k<xs.length
 ·simp only [fX,aP,my,mE,bC,tE,aE dM,ax,cond_true,aF,List.getElem?_eq_getElem dM,Option.bind_some,mG,wa,aN (show k<4611686018427387904 by omega)]
  cases (decide (1≤xs[k].1)&&decide (xs[k].1≤c2))
  ·exact .inl ⟨.inr (false,()),.inr (false,()),rfl,rfl,rfl,rfl⟩
  ·by_cases h0:0<k
   ·have hp:k-1<xs.length:=by omega
    rw [uV h0 (by omega)];simp only [ak (show (0:Int)<((k:Nat):Int) by omega),Bool.not_true,cond_false,cond_true,ax,aF,List.getElem?_eq_getElem hp,Option.bind_some]
    cases decide (xs[k].1≤xs[k-1].1)
    ·exact .inr ⟨dM,_,_,rfl,rfl,rfl,rfl⟩
    ·exact .inl ⟨.inr (false,()),.inr (false,()),rfl,rfl,rfl,rfl⟩
   ·have:k=0:=by omega
    subst this;simp only [aq (show ¬(0:Int)<((0:Nat):Int) by omega),Bool.not_true,cond_false];exact .inr ⟨dM,_,_,rfl,rfl,rfl,rfl⟩
 ·have:k=xs.length:=by omega
  subst this;exact .inl ⟨.inl (),.inl (c0,c1,c2,c3,c4,xs,()),by simp only [fX,aP,my,aM,cond_false],by simp only [mE,bC,tE,aM,cond_false],rfl⟩
theorem wc (c0 c1 c2 c3 c4:Int) (xs:List (Int×Unit)) (h:xs.length≤1048576):∃b,eZ c0 c1 c2 c3 c4 xs=some (b,())∧iA c0 c1 c2 c3 c4 xs=some (b,())∧(b=true→0≤c2∧c2≤60∧0≤c3∧c3≤c2∧xs.length≤20∧(∀y∈[c0,c1],1≤y)):=by
 obtain ⟨e,f,h1,h2,h3⟩:=Qs c0 c1 c2 c3 c4 xs h;unfold eZ iA;simp only [mG,wa,Option.bind_some,h1,h2]
 cases q0:(decide (1≤c0)&&decide (c0≤9))
 ·exact ⟨false,rfl,rfl,fun h=>by cases h⟩
 cases q1:(decide (1≤c1)&&decide (c1≤1000000000))
 ·exact ⟨false,rfl,rfl,fun h=>by cases h⟩
 cases q2:(decide (0≤c2)&&decide (c2≤60))
 ·exact ⟨false,rfl,rfl,fun h=>by cases h⟩
 cases e with
 |inl e=>cases f with
  |inl f=>
   have h3:f=(c0,c1,c2,c3,c4,xs,()):=h3;subst h3;simp only [cg,Option.bind_some,wa,Bool.not_true,cond_false]
   cases q3:(decide (0≤c3)&&decide (c3≤c2))
   ·exact ⟨false,rfl,rfl,fun h=>by cases h⟩
   cases (decide (0≤c4)&&decide (c4≤5))
   ·exact ⟨false,rfl,rfl,fun h=>by cases h⟩
   by_cases hl:((List.length xs:Nat):Int)≤20
   ·rw [ak hl,aq (show ¬(20:Int)<((List.length xs:Nat):Int) by omega)];refine ⟨true,rfl,rfl,fun _ => ?_⟩;rw [Bool.and_eq_true,decide_eq_true_eq,decide_eq_true_eq] at q0 q1 q2 q3;refine ⟨q2.1,q2.2,q3.1,q3.2,by omega,fun y hy => ?_⟩;rcases List.mem_cons.1 hy with rfl | hy
    ·exact q0.1
    ·rcases List.mem_cons.1 hy with rfl | hy
     ·exact q1.1
     ·cases hy
   ·rw [aq hl,ak (show (20:Int)<((List.length xs:Nat):Int) by omega)];exact ⟨false,rfl,rfl,fun h=>by cases h⟩
  |inr f=>exact h3.elim
 |inr e=>cases f with
  |inl f=>exact h3.elim
  |inr f=>
   obtain ⟨e1,e2⟩:=(show e.1=false∧f.1=false from h3);refine ⟨false,?_,by rw [←e2];rfl,fun h=>by cases h⟩
   cases (decide (0≤c3)&&decide (c3≤c2))
   ·rfl
   cases (decide (0≤c4)&&decide (c4≤5))
   ·rfl
   cases decide ((20:Int)<((List.length xs:Nat):Int))
   ·show some (e.1,())=some (false,());rw [e1]
   ·rfl
theorem lL (xs:List (Int×Unit)) (h:xs.length≤1048576):dL xs=some (xs,()):=by
 unfold dL;rw [aT (show (0+xs.length)*8≤lim by unfold lim;omega)];rfl
theorem mo (c0 c1 c2 c3 c4:Int) (xs:List (Int×Unit)) (h:xs.length≤1048576):bu c0 c1 c2 c3 c4 xs=some (c0,c1,c2,c3,c4,xs,())∧fv c0 c1 c2 c3 c4 xs=some (c0,c1,c2,c3,c4,xs,()):=by
 constructor
 ·unfold bu;rw [aT (show (0+xs.length)*8≤lim by unfold lim;omega)];rfl
 ·unfold fv;rw [lL xs h];rfl
def zv (c2:Int) (xs:List (Int×Unit)) (n:Nat):Prop:=∀k (h:k<xs.length),k<n→1≤xs[k].1∧xs[k].1≤c2∧∀h0:0<k,xs[k-1].1<xs[k].1
def agn (c0 c1 c2 c3 c4:Int) (xs:List (Int×Unit)):Prop:=(1≤c0∧c0≤9)∧(1≤c1∧c1≤1000000000)∧(0≤c2∧c2≤60)∧(0≤c3∧c3≤c2)∧(0≤c4∧c4≤5)∧xs.length≤20∧zv c2 xs xs.length
theorem K7 (c0 c1 c2 c3 c4:Int) (xs:List (Int×Unit)) (h:xs.length≤1048576):∃b,eZ c0 c1 c2 c3 c4 xs=some (b,())∧iA c0 c1 c2 c3 c4 xs=some (b,())∧(b=true↔agn c0 c1 c2 c3 c4 xs):=by
 obtain ⟨b,h1,h2,_⟩:=wc c0 c1 c2 c3 c4 xs h;refine ⟨b,h1,h2,?_⟩;obtain ⟨e,he,hq⟩:=dG (round:=fX) (x:=(c0,c1,c2,c3,c4,xs,((0:Nat):Int),())) xs.length (fun k x=>x=(c0,c1,c2,c3,c4,xs,((k:Nat):Int),())∧zv c2 xs k)
  (fun e=>(e=.inl ()∧zv c2 xs xs.length)∨(e=.inr (false,())∧¬zv c2 xs xs.length)) (by
   rintro x ⟨rfl,g⟩
   exact ⟨.inl (),by simp only [fX,aP,my,aM,cond_false],.inl ⟨rfl,g⟩⟩) (by
   rintro k x dM ⟨rfl,g⟩
   simp only [fX,aP,my,aE dM,ax,cond_true,aF,List.getElem?_eq_getElem dM,Option.bind_some,mG,aN (show k<4611686018427387904 by omega)];have more:1≤xs[k].1→xs[k].1≤c2→(∀h0:0<k,xs[k-1].1<xs[k].1)→zv c2 xs (k+1):=by
    intro w1 w2 w3 j hj Nx
    by_cases e:j<k
    ·exact g j hj e
    ·have:j=k:=by omega
     subst this;exact ⟨w1,w2,w3⟩
   cases Hn:(decide (1≤xs[k].1)&&decide (xs[k].1≤c2))
   ·refine .inl ⟨.inr (false,()),rfl,.inr ⟨rfl,fun hn => ?_⟩⟩;obtain ⟨w1,w2,_⟩:=hn k dM dM;rw [ak w1,ak w2] at Hn
    cases Hn
   ·rw [Bool.and_eq_true,decide_eq_true_eq,decide_eq_true_eq] at Hn
    by_cases h0:0<k
    ·have hp:k-1<xs.length:=by omega
     rw [uV h0 (by omega)];simp only [ak (show (0:Int)<((k:Nat):Int) by omega),Bool.not_true,cond_false,cond_true,ax,aF,List.getElem?_eq_getElem hp,Option.bind_some]
     by_cases hd:xs[k].1≤xs[k-1].1
     ·rw [ak hd];refine .inl ⟨.inr (false,()),rfl,.inr ⟨rfl,fun hn => ?_⟩⟩;have:=(hn k dM dM).2.2 h0;omega
     ·rw [aq hd];exact .inr ⟨_,rfl,rfl,more Hn.1 Hn.2 (fun _=>by omega)⟩
    ·have:k=0:=by omega
     subst this;simp only [aq (show ¬(0:Int)<((0:Nat):Int) by omega),Bool.not_true,cond_false];exact .inr ⟨_,rfl,rfl,more Hn.1 Hn.2 (fun h0=>absurd h0 (Nat.lt_irrefl 0))⟩) ⟨rfl,fun j _ h=>by omega⟩
 have he:aJ fX (c0,c1,c2,c3,c4,xs,(0:Int),())=some e:=he;unfold eZ at h1;simp only [mG,Option.bind_some,he] at h1;have no:∀ {p:Prop},(some (false,()):Option (Bool×Unit))=some (b,())→¬p→(b=true↔p):=by
  intro p e1 hp;injection e1 with e1;injection e1 with e1;subst e1;exact ⟨(fun h=>by cases h),fun h=>absurd h hp⟩
 have yes:∀ {p:Prop},(some (true,()):Option (Bool×Unit))=some (b,())→p→(b=true↔p):=by
  intro p e1 hp;injection e1 with e1;injection e1 with e1;subst e1;exact ⟨fun _=>hp,fun _=>rfl⟩
 by_cases q0:1≤c0∧c0≤9
 case neg=>
  rw [show (decide (1≤c0)&&decide (c0≤9))=false by rw [Bool.and_eq_false_iff,decide_eq_false_iff_not,decide_eq_false_iff_not];omega] at h1;exact no h1 (fun h=>q0 h.1)
 rw [ak q0.1,ak q0.2] at h1
 by_cases q1:1≤c1∧c1≤1000000000
 case neg=>
  rw [show (decide (1≤c1)&&decide (c1≤1000000000))=false by rw [Bool.and_eq_false_iff,decide_eq_false_iff_not,decide_eq_false_iff_not];omega] at h1;exact no h1 (fun h=>q1 h.2.1)
 rw [ak q1.1,ak q1.2] at h1
 by_cases q2:0≤c2∧c2≤60
 case neg=>
  rw [show (decide (0≤c2)&&decide (c2≤60))=false by rw [Bool.and_eq_false_iff,decide_eq_false_iff_not,decide_eq_false_iff_not];omega] at h1;exact no h1 (fun h=>q2 h.2.2.1)
 rw [ak q2.1,ak q2.2] at h1
 by_cases q3:0≤c3∧c3≤c2
 case neg=>
  rw [show (decide (0≤c3)&&decide (c3≤c2))=false by rw [Bool.and_eq_false_iff,decide_eq_false_iff_not,decide_eq_false_iff_not];omega] at h1;exact no h1 (fun h=>q3 h.2.2.2.1)
 rw [ak q3.1,ak q3.2] at h1
 by_cases q4:0≤c4∧c4≤5
 case neg=>
  rw [show (decide (0≤c4)&&decide (c4≤5))=false by rw [Bool.and_eq_false_iff,decide_eq_false_iff_not,decide_eq_false_iff_not];omega] at h1;exact no h1 (fun h=>q4 h.2.2.2.2.1)
 rw [ak q4.1,ak q4.2] at h1
 by_cases q5:(20:Int)<((List.length xs:Nat):Int)
 ·rw [ak q5] at h1;exact no h1 (fun h=>by have:=h.2.2.2.2.2.1;omega)
 rw [aq q5] at h1;rcases hq with ⟨rfl,q⟩ | ⟨rfl,q⟩
 ·exact yes h1 ⟨q0,q1,q2,q3,q4,by omega,q⟩
 ·exact no h1 (fun h=>q h.2.2.2.2.2.2)
end Go.TM
set_option linter.unusedSimpArgs false
set_option linter.unusedVariables false
namespace Go.TM
open Go
theorem Ea (a:Int):oe a=some (decide (1≤a)&&decide (a≤2),()):=by
 unfold oe
 by_cases h1:a=1
 ·subst h1;rfl
 by_cases h2:a=2
 ·subst h2;rfl
 have e:(decide (1≤a)&&decide (a≤2))=false:=by
  rw [Bool.and_eq_false_iff,decide_eq_false_iff_not,decide_eq_false_iff_not];omega
 rw [e,aq h1,aq h2];rfl
theorem Ud (a b c:Int) (s:ByteArray):∃x,kG a b c s=some (x,())∧l5 a b c s=some (x,()):=by
 unfold kG l5;simp only [mG,wa,pS,Ea,Option.bind_some]
 cases (decide (1≤a)&&decide (a≤60))
 ·exact ⟨_,rfl,rfl⟩
 cases (decide (1≤b)&&decide (b≤5))
 ·exact ⟨_,rfl,rfl⟩
 cases (decide (1≤c)&&decide (c≤2))
 ·exact ⟨_,rfl,rfl⟩
 ·exact ⟨_,rfl,rfl⟩
theorem Qt (xs:List (Int×Int×Int×ByteArray×Unit)) (h:xs.length≤1048576) :
  ∃e f,aJ fW (xs,(0:Int),())=some e∧aJ mD (xs,xs,((List.length xs:Nat):Int),(0:Int),())=some f∧GO e f:=by
 refine qj xs.length (fun k x y=>x=(xs,((k:Nat):Int),())∧y=(xs,xs,((List.length xs:Nat):Int),((k:Nat):Int),())) GO ?_ ⟨rfl,rfl⟩
 rintro k x y hk ⟨rfl,rfl⟩
 by_cases dM:k<xs.length
 ·obtain ⟨b,r1,r2⟩:=Ud xs[k].1 xs[k].2.1 xs[k].2.2.1 xs[k].2.2.2.1;simp only [fW,mw,aw,mD,aw,tD,aw,aE dM,ax,cond_true,aF,List.getElem?_eq_getElem dM,Option.bind_some,r1,r2,aN (show k<4611686018427387904 by omega)]
  cases b
  ·exact .inl ⟨.inr (false,()),.inr (false,()),rfl,rfl,rfl⟩
  ·by_cases h0:0<k
   ·have hp:k-1<xs.length:=by omega
    rw [uV h0 (by omega)];simp only [ak (show (0:Int)<((k:Nat):Int) by omega),Bool.not_true,cond_false,cond_true,ax,aF,List.getElem?_eq_getElem hp,Option.bind_some]
    cases decide (xs[k].1≤xs[k-1].1)
    ·exact .inr ⟨dM,_,_,rfl,rfl,rfl,rfl⟩
    ·exact .inl ⟨.inr (false,()),.inr (false,()),rfl,rfl,rfl⟩
   ·have:k=0:=by omega
    subst this;simp only [aq (show ¬(0:Int)<((0:Nat):Int) by omega),Bool.not_true,cond_false];exact .inr ⟨dM,_,_,rfl,rfl,rfl,rfl⟩
 ·have:k=xs.length:=by omega
  subst this;exact .inl ⟨.inl (),.inl (),by simp only [fW,mw,aw,aM,cond_false],by simp only [mD,aw,tD,aw,aM,cond_false],trivial⟩
theorem CU (xs:List (Int×Int×Int×ByteArray×Unit)) (h:xs.length≤1048576):∃b,gz xs=some (b,())∧jl xs=some (b,()):=by
 obtain ⟨e,f,h1,h2,h3⟩:=Qt xs h;unfold gz jl;rw [h1,h2]
 cases e with
 |inl e=>cases f with
  |inl f=>exact ⟨true,rfl,rfl⟩
  |inr f=>exact h3.elim
 |inr e=>cases f with
  |inl f=>exact h3.elim
  |inr f=>exact ⟨e.1,rfl,by rw [show e.1=f.1 from h3];rfl⟩
abbrev dY:Type:=Int×Int×Int×ByteArray×Unit
abbrev aV:Type:=List dY
def fx (xs:aV) (s:Int):Option dY:=xs.find? fun r=>decide (r.1=s)
def qR:Option dY→Int×Int×Int×ByteArray×Bool×Unit
 |none=>(0,0,0,ByteArray.empty,false,())
 |some r=>(r.1,r.2.1,r.2.2.1,r.2.2.2.1,true,())
def R1:Option dY→Sum (Int×Int×Int×ByteArray×Unit) (Int×Int×Int×ByteArray×Bool×Unit)
 |none=>.inl (0,0,0,ByteArray.empty,())
 |some r=>.inr (qR (some r))
theorem K8 (xs:aV) (s:Int) {k:Nat} (hk:k<xs.length):fx (xs.drop k) s=if xs[k].1=s then some xs[k] else fx (xs.drop (k+1)) s:=by
 unfold fx;rw [List.drop_eq_getElem_cons hk,List.find?_cons]
 by_cases h:xs[k].1=s
 ·rw [ak h,if_pos h]
 ·rw [aq h,if_neg h]
theorem wR (xs:aV) (s:Int) (h:xs.length≤1048576):nH xs s=some (qR (fx xs s)):=by
 have hl:=sC (round:=lz) (n:=xs.length) (fun k=>(xs,s,(0:Int),(0:Int),(0:Int),ByteArray.empty,((k:Nat):Int),())) (fun k=>some (R1 (fx (xs.drop k) s)))
  ⟨.inl (0,0,0,ByteArray.empty,()),by simp only [lz,aP,vq,aA,aM,cond_false],by rw [List.drop_length];rfl⟩ (fun k hk=>by
   rw [K8 xs s hk];simp only [lz,aP,vq,aA,aE hk,ax,cond_true,aF,List.getElem?_eq_getElem hk,Option.bind_some,aN (show k<4611686018427387904 by omega)]
   by_cases h:xs[k].1=s
   ·rw [ak h,if_pos h];exact .inl ⟨_,rfl,rfl⟩
   ·rw [aq h,if_neg h];exact .inr ⟨rfl,rfl⟩) 0 (Nat.zero_le _)
 unfold nH;have hl:aJ lz (xs,s,(0:Int),(0:Int),(0:Int),ByteArray.empty,(0:Int),())=_:=hl;rw [hl,List.drop_zero]
 cases fx xs s<;>rfl
theorem wS (xs:aV) (s:Int) (h:xs.length≤1048576):nO xs s=some (qR (fx xs s)):=by
 have hl:=sC (round:=lI) (n:=xs.length) (fun k=>(s,(0:Int),(0:Int),(0:Int),ByteArray.empty,xs,((List.length xs:Nat):Int),((k:Nat):Int),())) (fun k=>some (R1 (fx (xs.drop k) s)))
  ⟨.inl (0,0,0,ByteArray.empty,()),by simp only [lI,bC,vQ,aA,aM,cond_false],by rw [List.drop_length];rfl⟩ (fun k hk=>by
   rw [K8 xs s hk];simp only [lI,bC,vQ,aA,aE hk,ax,cond_true,aF,List.getElem?_eq_getElem hk,Option.bind_some,aN (show k<4611686018427387904 by omega)]
   by_cases h:xs[k].1=s
   ·rw [ak h,if_pos h];exact .inl ⟨_,rfl,rfl⟩
   ·rw [aq h,if_neg h];exact .inr ⟨rfl,rfl⟩) 0 (Nat.zero_le _)
 unfold nO;have hl:aJ lI (s,(0:Int),(0:Int),(0:Int),ByteArray.empty,xs,((List.length xs:Nat):Int),(0:Int),())=_:=hl;rw [hl,List.drop_zero]
 cases fx xs s<;>rfl
theorem Gd:(n:Nat)→(ys:List Int)→(∀i,i<n→((i+1:Nat):Int)∈ys)→n≤ys.length
 |0,_,_=>Nat.zero_le _
 |n+1,ys,h=>by
  have hm:=h n (by omega);have:=Gd n (ys.erase ((n+1:Nat):Int)) (fun i hi=>(List.mem_erase_of_ne (by omega)).2 (h i (by omega)));rw [List.length_erase_of_mem hm] at this;have:0<ys.length:=List.length_pos_of_mem hm;omega
theorem CW {xs:aV} {s:Int} {r:dY} (h:fx xs s=some r):r∈xs∧r.1=s:=by
 unfold fx at h;exact ⟨List.mem_of_find?_eq_some h,by have:=List.find?_some h;simpa using this⟩
def R2 (xs:aV) (n:Nat):Prop:=n≤xs.length∧(∀i,i<n→(fx xs ((i+1:Nat):Int)).isSome=true)∧fx xs ((n+1:Nat):Int)=none
theorem ZD {xs:aV} (h:∀i,i<xs.length→(fx xs ((i+1:Nat):Int)).isSome=true):fx xs ((xs.length+1:Nat):Int)=none:=by
 cases hq:fx xs ((xs.length+1:Nat):Int) with
 |none=>rfl
 |some r=>
  have key:=Gd (xs.length+1) (xs.map (·.1)) (fun i hi=>by
   have:∃r,fx xs ((i+1:Nat):Int)=some r:=by
    by_cases YA:i<xs.length
    ·exact Option.isSome_iff_exists.1 (h i YA)
    ·have:i=xs.length:=by omega
     subst this;exact ⟨r,hq⟩
   obtain ⟨r',hr⟩:=this;obtain ⟨m1,m2⟩:=CW hr;exact List.mem_map.2 ⟨r',m1,m2⟩)
  rw [List.length_map] at key;omega
theorem Eb (xs:aV) (h:xs.length≤1048576):∃n:Nat,ie xs=some (((n:Nat):Int),())∧jQ xs=some (((n:Nat):Int),())∧R2 xs n:=by
 obtain ⟨e,f,h1,h2,n,h3⟩:∃e f,aJ sj (xs,(0:Int),(0:Int),())=some e∧aJ sr (xs,(0:Int),())=some f∧∃n:Nat,(e=.inl (((n:Nat):Int),())∨e=.inr (((n:Nat):Int),()))∧f=.inr (((n:Nat):Int),())∧R2 xs n:=by
  refine qj xs.length (fun k x y=>x=(xs,((k:Nat):Int),((k:Nat):Int),())∧y=(xs,((k:Nat):Int),())∧∀i,i<k→(fx xs ((i+1:Nat):Int)).isSome=true) _ ?_ ⟨rfl,rfl,fun i hi=>by omega⟩
  rintro k x y hk ⟨rfl,rfl,lu⟩
  simp only [sj,Cf,sr,Ch,aN (show k<4611686018427387904 by omega),wR xs _ h,wS xs _ h,Option.bind_some]
  by_cases dM:k<xs.length
  ·rw [aE dM]
   cases hq:fx xs ((k+1:Nat):Int) with
   |none=>exact .inl ⟨.inr (((k:Nat):Int),()),.inr (((k:Nat):Int),()),rfl,rfl,k,.inr rfl,rfl,hk,lu,hq⟩
   |some r=>
    refine .inr ⟨dM,_,_,rfl,rfl,rfl,rfl,fun i hi => ?_⟩
    by_cases YA:i<k
    ·exact lu i YA
    ·have:i=k:=by omega
     subst this;rw [hq];rfl
  ·have:k=xs.length:=by omega
   subst this;have hq:=ZD lu;rw [aM,hq];exact .inl ⟨.inl (((xs.length:Nat):Int),()),.inr (((xs.length:Nat):Int),()),rfl,rfl,xs.length,.inl rfl,rfl,hk,lu,hq⟩
 obtain ⟨h3,rfl,h4⟩:=h3;unfold ie jQ;rw [h1,h2];refine ⟨n,?_,rfl,h4⟩;rcases h3 with rfl | rfl<;>rfl
end Go.TM
set_option linter.unusedSimpArgs false
set_option linter.unusedVariables false
namespace Go.TM
open Go
abbrev EvR:Type:=Int×Int×(List (Int×Unit))×Int×Int×Int×ByteArray×(List (Int×Unit))×Unit
theorem IE (xs:List EvR) {k:Nat} (hk:k<xs.length) (h:xs.length+wl bt xs≤1048576):xs[k].2.2.1.length≤1048576∧xs[k].2.2.2.2.2.2.2.1.length≤1048576:=by
 have hw:=HH bt xs xs[k] (List.getElem_mem hk);have:bt xs[k]=(List.length xs[k].2.2.1+wl jV xs[k].2.2.1)+ByteArray.size xs[k].2.2.2.2.2.2.1+(List.length xs[k].2.2.2.2.2.2.2.1+wl jV xs[k].2.2.2.2.2.2.2.1):=rfl;omega
theorem tI (xs:List EvR) (h:xs.length+wl bt xs≤1048576):db xs=some (xs,()):=by
 have hl:=ck (round:=cW) (e:=.inl (xs,())) xs.length (fun k=>(xs,xs.take k,((k:Nat):Int),())) (by
  simp only [cW,hY,aA,aM,cond_false,List.take_length]) (fun k hk=>by
  obtain ⟨e1,e2⟩:=IE xs hk h;simp only [cW,hY,aA,aE hk,ax,cond_true,aF,List.getElem?_eq_getElem hk,Option.bind_some,List.length_take,Nat.min_eq_left (Nat.le_of_lt hk),aT (show (0+xs[k].2.2.1.length)*8≤lim by unfold lim;omega),aT (show (0+xs[k].2.2.2.2.2.2.2.1.length)*8≤lim by unfold lim;omega),aT (show (k+1)*104≤lim by unfold lim;omega),aN (show k<4611686018427387904 by omega),List.nil_append];rw [List.take_succ_eq_append_getElem hk])
 have hl:aJ cW (xs,[],(0:Int),())=_:=hl;unfold db;rw [hl];rfl
theorem GI (xs:List EvR) (h:xs.length+wl bt xs≤1048576):uD xs=some (xs,()):=by
 have hl:=ck (round:=kt) (e:=.inl (xs,())) xs.length (fun k=>(xs.take k,xs,((xs.length:Nat):Int),((k:Nat):Int),())) (by
  simp only [kt,aw,tF,bC,eE,aM,cond_false,List.take_length]) (fun k hk=>by
  obtain ⟨e1,e2⟩:=IE xs hk h;simp only [kt,aw,tF,bC,eE,vS,bM,lL _ e1,lL _ e2,aE hk,ax,cond_true,aF,List.getElem?_eq_getElem hk,Option.bind_some,List.length_take,Nat.min_eq_left (Nat.le_of_lt hk),aT (show (k+1)*104≤lim by unfold lim;omega),aN (show k<4611686018427387904 by omega)];rw [List.take_succ_eq_append_getElem hk])
 have hl:aJ kt ([],xs,((xs.length:Nat):Int),(0:Int),())=_:=hl;unfold uD;rw [hl];rfl
end Go.TM
set_option linter.unusedSimpArgs false
set_option linter.unusedVariables false
namespace Go.TM
open Go
theorem Ge (a b c:Int) (xs:List (Int×Int×Int×ByteArray×Unit)) (h:xs.length≤1048576):∃x,iu a b c xs=some (x,())∧jo a b c xs=some (x,()):=by
 obtain ⟨y,h1,h2⟩:=CU xs h;unfold iu jo;simp only [mG,wa,pS,Option.bind_some,h1,h2]
 cases (decide (1≤a)&&decide (a≤5))
 ·exact ⟨_,rfl,rfl⟩
 cases (decide (1≤b)&&decide (b≤9))
 ·exact ⟨_,rfl,rfl⟩
 cases (decide (0≤c)&&decide (c≤IntKind.i64.wrap (b-1)))
 ·exact ⟨_,rfl,rfl⟩
 cases y
 ·exact ⟨_,rfl,rfl⟩
 cases decide (0<c)
 ·exact ⟨_,rfl,rfl⟩
 ·exact ⟨_,rfl,rfl⟩
abbrev dS:Type:=Int×Int×Int×aV×Unit
noncomputable def lM (b:dS):Bool:=match iu b.1 b.2.1 b.2.2.1 b.2.2.2.1 with | some x=>x.1 | none=>false
theorem rW (b:dS) (h:b.2.2.2.1.length≤1048576):iu b.1 b.2.1 b.2.2.1 b.2.2.2.1=some (lM b,())∧jo b.1 b.2.1 b.2.2.1 b.2.2.2.1=some (lM b,()):=by
 obtain ⟨x,h1,h2⟩:=Ge b.1 b.2.1 b.2.2.1 b.2.2.2.1 h;have:lM b=x:=by unfold lM;rw [h1]
 rw [this];exact ⟨h1,h2⟩
theorem Ec (xs:List dS) {k:Nat} (hk:k<xs.length) (h:xs.length+wl ef xs≤1048576):xs[k].2.2.2.1.length≤1048576:=by
 have hw:=HH ef xs xs[k] (List.getElem_mem hk);have:ef xs[k]=List.length xs[k].2.2.2.1+wl dJ xs[k].2.2.2.1:=rfl;omega
structure jr (xs:List dS):Prop where
 len:xs.length≤4194304
 each:∀b∈xs,b.2.2.2.1.length≤1048576
theorem jr.at {xs:List dS} (h:jr xs) {k:Nat} (hk:k<xs.length):xs[k].2.2.2.1.length≤1048576:=h.each _ (List.getElem_mem hk)
theorem jr.of {xs:List dS} (h:xs.length+wl ef xs≤1048576):jr xs:=⟨by omega,fun b hb=>by
 obtain ⟨k,hk,rfl⟩:=List.mem_iff_getElem.1 hb;exact Ec xs hk h⟩
theorem jr.more {xs:List dS} (h:xs.length+wl ef xs≤1048576) {b:dS} (hb:b.2.2.2.1.length≤1048576):jr (xs++[b]):=⟨by rw [List.length_append,List.length_singleton];omega,fun x hx=>by
 rcases List.mem_append.1 hx with hx | hx
 ·exact (jr.of h).each x hx
 ·rw [List.mem_singleton] at hx;subst hx;exact hb⟩
noncomputable def fT (xs:List dS) (c id:Int):Option dS:=xs.find? fun b=>decide (b.1=id)&&(decide (b.2.1=c)&&lM b)
abbrev tJ:Option dS→Int×Int×Int×aV×Bool×Unit
 |none=>(0,0,0,[],false,())
 |some b=>(b.1,b.2.1,b.2.2.1,b.2.2.2.1,true,())
def Xx:Option dS→Sum (Int×Int×Int×aV×Unit) (Int×Int×Int×aV×Bool×Unit)
 |none=>.inl (0,0,0,[],())
 |some b=>.inr (tJ (some b))
theorem IF (xs:List dS) (c id:Int) {k:Nat} (hk:k<xs.length):fT (xs.drop k) c id=if (decide (xs[k].1=id)&&(decide (xs[k].2.1=c)&&lM xs[k]))=true then some xs[k] else fT (xs.drop (k+1)) c id:=by
 unfold fT;rw [List.drop_eq_getElem_cons hk,List.find?_cons]
 cases (decide (xs[k].1=id)&&(decide (xs[k].2.1=c)&&lM xs[k]))<;>rfl
theorem Fp {xs:List dS} {c id:Int} {b:dS} (h:fT xs c id=some b):b∈xs∧b.1=id∧b.2.1=c∧lM b=true:=by
 unfold fT at h;have:=List.find?_some h;simp only [Bool.and_eq_true,decide_eq_true_eq] at this;exact ⟨List.mem_of_find?_eq_some h,this⟩
theorem rX (bH:Int) (bK:List (Int×Unit)) (xs:List dS) (id:Int) (h:jr xs):ec bH bK xs id=some (tJ (fT xs bH id)):=by
 have UK:=h.len;have hl:=sC (round:=jB) (n:=xs.length) (fun k=>(xs,id,bH,bK,(0:Int),(0:Int),(0:Int),[],((k:Nat):Int),())) (fun k=>some (Xx (fT (xs.drop k) bH id)))
  ⟨.inl (0,0,0,[],()),by simp only [jB,bC,rK,aw,aA,aM,cond_false],by rw [List.drop_length];rfl⟩ (fun k hk=>by
   have hb:=(rW xs[k] (h.at hk)).1;rw [IF xs bH id hk];simp only [jB,bC,rK,aw,aA,aE hk,ax,cond_true,aF,List.getElem?_eq_getElem hk,Option.bind_some,hb,aN (show k<4611686018427387904 by omega)]
   cases decide (xs[k].1=id)
   ·exact .inr ⟨rfl,rfl⟩
   cases decide (xs[k].2.1=bH)
   ·exact .inr ⟨rfl,rfl⟩
   cases lM xs[k]
   ·exact .inr ⟨rfl,rfl⟩
   ·exact .inl ⟨_,rfl,rfl⟩) 0 (Nat.zero_le _)
 unfold ec;have hl:aJ jB (xs,id,bH,bK,(0:Int),(0:Int),(0:Int),[],(0:Int),())=_:=hl;rw [hl,List.drop_zero]
 cases fT xs bH id<;>rfl
theorem we (bH:Int) (bK:List (Int×Unit)) (xs:List dS) (id:Int) (h:jr xs):jq bH bK xs id=some (tJ (fT xs bH id)):=by
 have UK:=h.len;have hl:=sC (round:=jG) (n:=xs.length) (fun k=>(id,bH,bK,(0:Int),(0:Int),(0:Int),[],xs,((xs.length:Nat):Int),((k:Nat):Int),())) (fun k=>some (Xx (fT (xs.drop k) bH id)))
  ⟨.inl (0,0,0,[],()),by simp only [jG,bC,rT,aw,aA,aM,cond_false],by rw [List.drop_length];rfl⟩ (fun k hk=>by
   have hb:=(rW xs[k] (h.at hk)).2;rw [IF xs bH id hk];simp only [jG,bC,rT,aw,aA,aE hk,ax,cond_true,aF,List.getElem?_eq_getElem hk,Option.bind_some,hb,aN (show k<4611686018427387904 by omega)]
   cases decide (xs[k].1=id)
   ·exact .inr ⟨rfl,rfl⟩
   cases decide (xs[k].2.1=bH)
   ·exact .inr ⟨rfl,rfl⟩
   cases lM xs[k]
   ·exact .inr ⟨rfl,rfl⟩
   ·exact .inl ⟨_,rfl,rfl⟩) 0 (Nat.zero_le _)
 unfold jq;have hl:aJ jG (id,bH,bK,(0:Int),(0:Int),(0:Int),[],xs,((xs.length:Nat):Int),(0:Int),())=_:=hl;rw [hl,List.drop_zero]
 cases fT xs bH id<;>rfl
noncomputable def iG (xs:List dS) (c id:Int) (gJ:dS) (out:List (Int×Unit)) (d:Int):List (Int×Unit):=
 match fT xs c d with
 |none=>out
 |some b=>if (d=id∨(b.2.2.1=gJ.2.2.1∧0<b.2.2.1))∧(d,())∉out then out++[(d,())] else out
theorem Ed (xs:List dS) (c id:Int) (gJ:dS) (out:List (Int×Unit)) (d:Int):(iG xs c id gJ out d).length≤out.length+1:=by
 unfold iG
 split
 ·omega
 ·split
  ·simp
  ·omega
noncomputable def ff (xs:List dS) (c:Int) (ms:List (Int×Unit)) (id:Int):List (Int×Unit):=
 match fT xs c id with
 |none=>[]
 |some gJ=>ms.foldl (fun out m=>iG xs c id gJ out m.1) []
theorem zw (xs:List (Int×Unit)) (d:Int) (h:xs.length≤1048576):dx xs d=some (decide ((d,())∈xs),()):=by
 have hl:=sC (round:=eQ) (n:=xs.length) (fun k=>(xs,d,((k:Nat):Int),())) (fun k=>some (if (d,())∈xs.drop k then .inr (true,()) else .inl ()))
  ⟨.inl (),by simp only [eQ,kW,aM,cond_false],by rw [List.drop_length];rfl⟩ (fun k hk=>by
   rw [List.drop_eq_getElem_cons hk];simp only [eQ,kW,aE hk,ax,cond_true,aF,List.getElem?_eq_getElem hk,Option.bind_some,aN (show k<4611686018427387904 by omega)]
   by_cases e:xs[k].1=d
   ·rw [ak e];exact .inl ⟨_,rfl,by rw [if_pos (List.mem_cons.2 (.inl (by rw [←e])))]⟩
   ·rw [aq e];refine .inr ⟨rfl,?_⟩;have:((d,())∈xs[k]::xs.drop (k+1))↔((d,())∈xs.drop (k+1)):=by
     rw [List.mem_cons];exact ⟨fun h=>h.resolve_left (fun q=>e (by rw [←q])),.inr⟩
    by_cases q:(d,())∈xs.drop (k+1)
    ·rw [if_pos q,if_pos (this.2 q)]
    ·rw [if_neg q,if_neg (fun z=>q (this.1 z))]) 0 (Nat.zero_le _)
 unfold dx;have hl:aJ eQ (xs,d,(0:Int),())=_:=hl;rw [hl,List.drop_zero]
 by_cases q:(d,())∈xs
 ·rw [if_pos q,ak q];rfl
 ·rw [if_neg q,aq q];rfl
theorem Mo (xs:List (Int×Unit)) (d:Int) (h:xs.length≤1048576):cN xs d=some (decide ((d,())∈xs),()):=by
 obtain ⟨b,h1,h2⟩:=ph d xs h;rw [zw xs d h] at h1;injection h1 with h1;injection h1 with h1 _;rw [h2,h1]
theorem uW {α β:Type} (f:β→α→β) (b:β) (xs:List α) {k:Nat} (hk:k<xs.length):(xs.take (k+1)).foldl f b=f ((xs.take k).foldl f b) xs[k]:=by
 rw [List.take_succ_eq_append_getElem hk,List.foldl_append];rfl
theorem zx (xs:List dS) (c id:Int) (gJ:dS) (ms:List (Int×Unit)) (out:List (Int×Unit)):(ms.foldl (fun out m=>iG xs c id gJ out m.1) out).length≤out.length+ms.length:=by
 induction ms generalizing out with
 |nil=>simp
 |cons m ms ih=>
  rw [List.foldl_cons,List.length_cons];have h1:=ih (iG xs c id gJ out m.1);have h2:=Ed xs c id gJ out m.1;omega
theorem ss (bH:Int) (bK:List (Int×Unit)) (xs:List dS) (id:Int) (h0:bK.length≤1048576) (h:jr xs) :
  iK bH bK xs id=some (ff xs bH bK id,())∧iN bH bK xs id=some (ff xs bH bK id,())∧(ff xs bH bK id).length≤bK.length:=by
 have UK:=h.len;unfold iK iN ff;delta aA;rw [rX _ _ _ _ h,we _ _ _ _ h]
 cases hm:fT xs bH id with
 |none=>exact ⟨rfl,rfl,Nat.zero_le _⟩
 |some gJ=>
  have wo:=(Fp hm).2.1;have hlen:=zx xs bH id gJ bK [];rw [List.length_nil,Nat.zero_add] at hlen;have hk8:∀k,k<bK.length→Nat.ble ((((bK.take k).foldl (fun out m=>iG xs bH id gJ out m.1) []).length+1)*8) lim=true:=fun k hk=>by
   have:=zx xs bH id gJ (bK.take k) [];rw [List.length_nil,Nat.zero_add,List.length_take] at this;exact aT (by unfold lim;omega)
  have Hn:∀k,k<bK.length→((bK.take k).foldl (fun out m=>iG xs bH id gJ out m.1) []).length≤1048576:=fun k hk=>by
   have:=zx xs bH id gJ (bK.take k) [];rw [List.length_nil,Nat.zero_add,List.length_take] at this;omega
  have l1:=ck (round:=fu) (e:=.inl (bK.foldl (fun out m=>iG xs bH id gJ out m.1) [],())) bK.length (fun k=>(xs,id,bH,bK,(bK.take k).foldl (fun out m=>iG xs bH id gJ out m.1) [],gJ.1,gJ.2.1,gJ.2.2.1,gJ.2.2.2.1,((k:Nat):Int),())) (by
   simp only [fu,bC,iE,aM,cond_false,List.take_length]) (fun k hk=>by
   rw [uW _ _ _ hk];have e8:=hk8 k hk;have ei:=Hn k hk;generalize (bK.take k).foldl (fun out m=>iG xs bH id gJ out m.1) []=out at e8 ei ⊢;simp only [fu,bC,iE,aE hk,ax,cond_true,aF,List.getElem?_eq_getElem hk,Option.bind_some,rX _ _ _ _ h,aN (show k<4611686018427387904 by omega)];unfold iG
   cases hb:fT xs bH bK[k].1 with
   |none=>rfl
   |some b=>
    have hf:=(Fp hb).2.1;simp only [tJ,hf,zw _ _ ei,Option.bind_some,cond_true,e8]
    by_cases q1:bK[k].1=id
    ·rw [ak q1]
     by_cases q3:(bK[k].1,())∈out
     ·rw [ak q3,if_neg (fun z=>z.2 q3)];rfl
     ·rw [aq q3,if_pos ⟨.inl q1,q3⟩];rfl
    rw [aq q1]
    by_cases q2:b.2.2.1=gJ.2.2.1
    ·rw [ak q2]
     by_cases q4:0<b.2.2.1
     ·rw [ak q4]
      by_cases q3:(bK[k].1,())∈out
      ·rw [ak q3,if_neg (fun z=>z.2 q3)];rfl
      ·rw [aq q3,if_pos ⟨.inr ⟨q2,q4⟩,q3⟩];rfl
     ·rw [aq q4,if_neg (fun z=>z.1.elim q1 (fun w=>q4 w.2))];rfl
    ·rw [aq q2,if_neg (fun z=>z.1.elim q1 (fun w=>q2 w.1))];rfl)
  have l2:=ck (round:=gq) (e:=.inl (bK.foldl (fun out m=>iG xs bH id gJ out m.1) [],())) bK.length (fun k=>(xs,id,bH,bK,gJ.1,gJ.2.1,gJ.2.2.1,gJ.2.2.2.1,(bK.take k).foldl (fun out m=>iG xs bH id gJ out m.1) [],bK,((bK.length:Nat):Int),((k:Nat):Int),())) (by
   simp only [gq,gK,nP,aM,cond_false,List.take_length]) (fun k hk=>by
   rw [uW _ _ _ hk];have e8:=hk8 k hk;have ei:=Hn k hk;generalize (bK.take k).foldl (fun out m=>iG xs bH id gJ out m.1) []=out at e8 ei ⊢;simp only [gq,gK,nP,aE hk,ax,cond_true,aF,List.getElem?_eq_getElem hk,Option.bind_some,we _ _ _ _ h,aN (show k<4611686018427387904 by omega)];unfold iG
   cases hb:fT xs bH bK[k].1 with
   |none=>rfl
   |some b=>
    simp only [tJ,Mo _ _ ei,Option.bind_some,cond_true,e8]
    by_cases q3:(bK[k].1,())∈out
    ·rw [ak q3,if_neg (fun z=>z.2 q3)];rfl
    rw [aq q3]
    by_cases q1:bK[k].1=id
    ·rw [ak q1,if_pos ⟨.inl q1,q3⟩];rfl
    rw [aq q1]
    by_cases q4:0<gJ.2.2.1
    ·rw [ak q4]
     by_cases q2:b.2.2.1=gJ.2.2.1
     ·rw [Xv q2,if_pos ⟨.inr ⟨q2,by omega⟩,q3⟩];rfl
     ·rw [Ub q2,if_neg (fun z=>z.1.elim q1 (fun w=>q2 w.1))];rfl
    ·rw [aq q4,if_neg (fun z=>z.1.elim q1 (fun w=>q4 (by omega)))];rfl)
  have l1:aJ fu (xs,id,bH,bK,[],gJ.1,gJ.2.1,gJ.2.2.1,gJ.2.2.2.1,(0:Int),())=_:=l1;have l2:aJ gq (xs,id,bH,bK,gJ.1,gJ.2.1,gJ.2.2.1,gJ.2.2.2.1,[],bK,((bK.length:Nat):Int),(0:Int),())=_:=l2;simp only [tJ,Option.bind_some,Bool.not_true,cond_false,l1,l2];exact ⟨rfl,rfl,hlen⟩
end Go.TM
set_option linter.unusedSimpArgs false
set_option linter.unusedVariables false
namespace Go.TM
open Go
def xW (l:List (Int×Unit)) (n:Nat):Prop:=∀j (h:j<l.length),j<n→(decide (1≤l[j].1)&&decide (l[j].1≤2))=true
def kM (l:List (ByteArray×Unit)) (n:Nat):Prop:=∀j (h:j<l.length),j<n→ByteArray.size l[j].1≤60
def Xy (lv:List (Int×Unit)) (tx:List (ByteArray×Unit)):Sum (List (Int×Unit)×List (ByteArray×Unit)×Unit) (Bool×Unit)→Prop
 |.inl y=>y=(lv,tx,())∧xW lv (min lv.length tx.length)∧kM tx (min lv.length tx.length)
 |.inr b=>b.1=false∧¬(xW lv (min lv.length tx.length)∧kM tx (min lv.length tx.length))
theorem CX (lv:List (Int×Unit)) (tx:List (ByteArray×Unit)) (h1:lv.length≤1048576) (h2:tx.length≤1048576):∃b,si lv tx=some (b,())∧(b=true↔tx.length≤20∧lv.length=tx.length∧xW lv lv.length∧kM tx tx.length):=by
 obtain ⟨e,he,hq⟩:=dG (round:=jz) (x:=(lv,tx,((0:Nat):Int),())) (min lv.length tx.length) (fun k x=>x=(lv,tx,((k:Nat):Int),())∧xW lv k∧kM tx k) (Xy lv tx) (by
   rintro x ⟨rfl,g1,g2⟩
   refine ⟨.inl (lv,tx,()),?_,rfl,g1,g2⟩
   by_cases hb:min lv.length tx.length<tx.length
   ·have e:min lv.length tx.length=lv.length:=by omega
    simp only [jz,n7,aE hb,cond_true];rw [e,aM];rfl
   ·have e:min lv.length tx.length=tx.length:=by omega
    simp only [jz,n7];rw [e,aM];rfl) (by
   rintro k x hk ⟨rfl,g1,g2⟩
   have hl:k<lv.length:=by omega
   have ht:k<tx.length:=by omega
   simp only [jz,n7,aE hl,aE ht,ax,cond_true,aF,List.getElem?_eq_getElem hl,List.getElem?_eq_getElem ht,Option.bind_some,mG,aN (show k<4611686018427387904 by omega)]
   cases hlv:(decide (1≤lv[k].1)&&decide (lv[k].1≤2))
   ·refine .inl ⟨.inr (false,()),rfl,rfl,fun hn => ?_⟩;have:=hn.1 k hl (by omega);rw [hlv] at this
    cases this
   ·by_cases hs:(60:Int)<((ByteArray.size tx[k].1:Nat):Int)
    ·rw [ak hs];refine .inl ⟨.inr (false,()),rfl,rfl,fun hn => ?_⟩;have:=hn.2 k ht (by omega);omega
    ·rw [aq hs];refine .inr ⟨_,rfl,rfl,fun j hj Nx => ?_,fun j hj Nx => ?_⟩
     ·by_cases e:j<k
      ·exact g1 j hj e
      ·have:j=k:=by omega
       subst this;exact hlv
     ·by_cases e:j<k
      ·exact g2 j hj e
      ·have:j=k:=by omega
       subst this;omega) ⟨rfl,fun j _ h=>by omega,fun j _ h=>by omega⟩
 unfold si;rw [show (0:Int)=((0:Nat):Int) from rfl,he]
 cases e with
 |inr e=>
  obtain ⟨q1,q2⟩:=hq;refine ⟨false,by rw [←q1];rfl,⟨(fun h=>by cases h),fun ⟨w1,w2,w3,w4⟩ => ?_⟩⟩;exact absurd ⟨fun j hj hm=>w3 j hj hj,fun j hj hm=>w4 j hj hj⟩ q2
 |inl e=>
  obtain ⟨q1,q2,q3⟩:=hq;subst q1;simp only [kD]
  by_cases w1:((List.length tx:Nat):Int)≤20
  ·rw [ak w1];refine ⟨_,rfl,?_⟩;rw [decide_eq_true_eq]
   constructor
   ·intro w2;have w2:lv.length=tx.length:=by omega
    exact ⟨by omega,w2,fun j hj _=>q2 j hj (by omega),fun j hj _=>q3 j hj (by omega)⟩
   ·rintro ⟨_,w2,_⟩
    rw [w2]
  ·rw [aq w1];exact ⟨false,rfl,⟨(fun h=>by cases h),fun ⟨w2,_⟩=>by omega⟩⟩
theorem Qu (tx:List (ByteArray×Unit)) (h2:tx.length≤1048576):∃b,sq tx=some (b,())∧(b=true↔kM tx tx.length):=by
 obtain ⟨e,he,hq⟩:=dG (round:=lH) (x:=(tx,((List.length tx:Nat):Int),((0:Nat):Int),())) tx.length (fun k x=>x=(tx,((List.length tx:Nat):Int),((k:Nat):Int),())∧kM tx k) (fun e=>(e=.inl ()∧kM tx tx.length)∨(e=.inr (false,())∧¬kM tx tx.length)) (by
   rintro x ⟨rfl,g2⟩
   exact ⟨.inl (),by simp only [lH,rS,aM,cond_false],.inl ⟨rfl,g2⟩⟩) (by
   rintro k x hk ⟨rfl,g2⟩
   simp only [lH,rS,aE hk,ax,cond_true,aF,List.getElem?_eq_getElem hk,Option.bind_some,aN (show k<4611686018427387904 by omega)]
   by_cases hs:(60:Int)<((ByteArray.size tx[k].1:Nat):Int)
   ·rw [ak hs];refine .inl ⟨.inr (false,()),rfl,.inr ⟨rfl,fun hn => ?_⟩⟩;have:=hn k hk hk;omega
   ·rw [aq hs];refine .inr ⟨_,rfl,rfl,fun j hj Nx => ?_⟩
    by_cases e:j<k
    ·exact g2 j hj e
    ·have:j=k:=by omega
     subst this;omega) ⟨rfl,fun j _ h=>by omega⟩
 unfold sq;rw [show (0:Int)=((0:Nat):Int) from rfl,he];rcases hq with ⟨rfl,q⟩ | ⟨rfl,q⟩
 ·exact ⟨true,rfl,⟨fun _=>q,fun _=>rfl⟩⟩
 ·exact ⟨false,rfl,⟨(fun h=>by cases h),fun h=>absurd h q⟩⟩
theorem zy (c0 c1 c2 c3 c4:Int) (xs:List (Int×Unit)):∃b,fy c0 c1 c2 c3 c4 xs=some (b,())∧dR c0 c1 c2 c3 c4 xs=some (b,()):=by
 unfold fy qo dR
 cases decide (c0=0)
 ·exact ⟨_,rfl,rfl⟩
 cases decide (c1=0)
 ·exact ⟨_,rfl,rfl⟩
 cases decide (c2=0)
 ·exact ⟨_,rfl,rfl⟩
 cases decide (c3=0)
 ·exact ⟨_,rfl,rfl⟩
 cases decide (c4=0)
 ·exact ⟨_,rfl,rfl⟩
 cases xs with
 |nil=>
  have hl:=ck (round:=jg) (e:=.inl ()) 0 (fun k=>(([]:List (Int×Unit)),([]:List (Int×Unit)),((k:Nat):Int),())) (by
   simp only [jg,tT,List.length_nil,aM,cond_false]) (fun k hk=>by omega)
  have hl:aJ jg (([]:List (Int×Unit)),([]:List (Int×Unit)),(0:Int),())=_:=hl;refine ⟨true,?_,rfl⟩;simp only [cond_true,n6,List.length_nil,decide_true,Bool.not_true,cond_false,hl,kD,Option.bind_some]
 |cons x xs=>
  have e:decide (((List.length (x::xs):Nat):Int)=(0:Int))=false:=aq (by rw [List.length_cons];omega);have e2:decide (((List.length (x::xs):Nat):Int)=((List.length ([]:List (Int×Unit)):Nat):Int))=false:=e;refine ⟨false,?_,?_⟩
  ·simp only [cond_true,n6,e2,Bool.not_false,Option.bind_some]
  ·simp only [cond_true,e]
abbrev aaL:Type:=Int×Int×(List (Int×Unit))×aV×(List (Int×Unit))×(List (ByteArray×Unit))×Int×Int×Int×Int×Int×Int×Int×Int×Int×(List (Int×Unit))×Unit
def ago (m:aaL) (lv:List (Int×Unit)):Sum aaL (Bool×Unit)→Prop
 |.inl y=>y=m∧xW lv lv.length
 |.inr b=>b.1=false∧¬xW lv lv.length
theorem Gf (eM:Int) (eA:Int) (dW:List (Int×Unit)) (dQ:List (Int×Int×Int×ByteArray×Unit)) (dw:List (Int×Unit)) (dX:List (ByteArray×Unit)) (eX:Int) (fm:Int) (fo:Int) (fp:Int) (cH:Int) (cI:Int) (cJ:Int) (cK:Int) (cL:Int) (cA:List (Int×Unit))
  (h0:(List.length dW+wl jV dW)+(List.length dQ+wl dJ dQ)+(List.length dw+wl jV dw)+(List.length dX+wl Jx dX)+(List.length cA+wl jV cA)≤1048576):∃o0,fq eM eA dW dQ dw dX eX fm fo fp cH cI cJ cK cL cA=some (o0,())∧gW eM eA dW dQ dw dX eX fm fo fp cH cI cJ cK cL cA=some (o0,()):=by
 obtain ⟨b1,r1,r2,_⟩:=BO eA dW (by omega);obtain ⟨b2,c1,c2⟩:=ph eM dW (by omega);obtain ⟨b3,i1,i2⟩:=CU dQ (by omega);obtain ⟨b4,t1,t2⟩:=CX dw dX (by omega) (by omega);obtain ⟨b5,s1,s2⟩:=Qu dX (by omega);obtain ⟨n,a1,a2,_⟩:=Eb dQ (by omega);obtain ⟨b6,z1,z2⟩:=zy cH cI cJ cK cL cA;obtain ⟨b7,k1,k2,_⟩:=wc cH cI cJ cK cL cA (by omega);obtain ⟨e,he,hq⟩:=dG (round:=lJ) (x:=(eM,eA,dW,dQ,dw,dX,eX,fm,fo,fp,cH,cI,cJ,cK,cL,cA,dw,((List.length dw:Nat):Int),((0:Nat):Int),())) dw.length
  (fun k x=>x=(eM,eA,dW,dQ,dw,dX,eX,fm,fo,fp,cH,cI,cJ,cK,cL,cA,dw,((List.length dw:Nat):Int),((k:Nat):Int),())∧xW dw k)
  (ago (eM,eA,dW,dQ,dw,dX,eX,fm,fo,fp,cH,cI,cJ,cK,cL,cA,()) dw) (by
   rintro x ⟨rfl,g⟩
   exact ⟨.inl _,by simp only [lJ,ba,vR,aM,cond_false],rfl,g⟩) (by
   rintro k x hk ⟨rfl,g⟩
   simp only [lJ,ba,vR,aE hk,ax,cond_true,aF,List.getElem?_eq_getElem hk,Option.bind_some,Ea,aN (show k<4611686018427387904 by omega)]
   cases hlv:(decide (1≤dw[k].1)&&decide (dw[k].1≤2))
   ·refine .inl ⟨.inr (false,()),rfl,rfl,fun hn => ?_⟩;have:=hn k hk hk;rw [hlv] at this
    cases this
   ·refine .inr ⟨_,rfl,rfl,fun j hj Nx => ?_⟩
    by_cases e:j<k
    ·exact g j hj e
    ·have:j=k:=by omega
     subst this;exact hlv) ⟨rfl,fun j _ h=>by omega⟩
 have he:aJ lJ (eM,eA,dW,dQ,dw,dX,eX,fm,fo,fp,cH,cI,cJ,cK,cL,cA,dw,((List.length dw:Nat):Int),(0:Int),())=some e:=he;unfold fq gW;delta aP;simp only [r1,r2,c1,c2,i1,i2,t1,s1,Option.bind_some,he]
 cases b1
 ·cases b2
  ·exact ⟨_,rfl,rfl⟩
  ·exact ⟨_,rfl,rfl⟩
 cases b2
 ·exact ⟨_,rfl,rfl⟩
 cases b3
 ·exact ⟨_,rfl,rfl⟩
 simp only [Bool.not_true,cond_false]
 by_cases w1:(20:Int)<((List.length dX:Nat):Int)
 ·have:b4=false:=by
   cases b4
   ·rfl
   ·have:=(t2.1 rfl).1;omega
  subst this;rw [ak w1];exact ⟨_,rfl,rfl⟩
 rw [aq w1]
 cases b5
 ·have:b4=false:=by
   cases b4
   ·rfl
   ·have:=s2.2 (t2.1 rfl).2.2.2;cases this
  subst this;exact ⟨_,rfl,rfl⟩
 by_cases w2:((List.length dw:Nat):Int)=((List.length dX:Nat):Int)
 case neg=>
  have:b4=false:=by
   cases b4
   ·rfl
   ·have:=(t2.1 rfl).2.1;omega
  subst this;rw [aq w2];exact ⟨_,rfl,rfl⟩
 rw [ak w2]
 cases e with
 |inr e=>
  obtain ⟨q1,q2⟩:=hq;have:b4=false:=by
   cases b4
   ·rfl
   ·exact absurd (t2.1 rfl).2.2.1 q2
  subst this;refine ⟨false,rfl,?_⟩;show some (e.1,())=_;rw [q1]
 |inl e=>
  obtain ⟨q1,q2⟩:=hq;subst q1;have:b4=true:=t2.2 ⟨by omega,by omega,q2,s2.1 rfl⟩;subst this;simp only [Bool.not_true,cond_false,kD,a1,a2,z1,z2,k1,k2,mG,wa,Option.bind_some]
  cases (decide (0≤eX)&&decide (eX≤1000000000))
  ·exact ⟨_,rfl,rfl⟩
  cases (decide (0≤fm)&&decide (fm≤60))
  ·exact ⟨_,rfl,rfl⟩
  cases (decide (0≤fo)&&decide (fo≤((n:Nat):Int)))
  ·exact ⟨_,rfl,rfl⟩
  cases (decide (0≤fp)&&decide (fp≤((n:Nat):Int)))
  ·exact ⟨_,rfl,rfl⟩
  cases b6
  ·exact ⟨_,rfl,rfl⟩
  ·exact ⟨_,rfl,rfl⟩
end Go.TM
set_option linter.unusedSimpArgs false
set_option linter.unusedVariables false
namespace Go.TM
open Go
def pT (r:dY):Prop:=(1≤r.1∧r.1≤60)∧(1≤r.2.1∧r.2.1≤5)∧(1≤r.2.2.1∧r.2.2.1≤2)∧ByteArray.size r.2.2.2.1≤60
def fh (xs:aV) (n:Nat):Prop:=∀k (h:k<xs.length),k<n→pT xs[k]∧∀h0:0<k,xs[k-1].1<xs[k].1
theorem Ol (a b c:Int) (s:ByteArray):∃x,kG a b c s=some (x,())∧l5 a b c s=some (x,())∧(x=true↔pT (a,b,c,s,())):=by
 have hi:∀ {p q r:Prop} [Decidable p] [Decidable q],(decide p&&decide q)=false→¬((p∧q)∧r):=by
  intro p q r _ _ h ⟨h1,_⟩;rw [decide_eq_true h1.1,decide_eq_true h1.2] at h
  cases h
 unfold kG l5 pT;simp only [mG,wa,pS,Ea,Option.bind_some]
 cases h1:(decide (1≤a)&&decide (a≤60))
 ·exact ⟨false,rfl,rfl,⟨fun h=>(by cases h),fun h=>absurd h (hi h1)⟩⟩
 rw [Bool.and_eq_true,decide_eq_true_eq,decide_eq_true_eq] at h1
 cases h2:(decide (1≤b)&&decide (b≤5))
 ·exact ⟨false,rfl,rfl,⟨fun h=>(by cases h),fun h=>absurd h.2 (hi h2)⟩⟩
 rw [Bool.and_eq_true,decide_eq_true_eq,decide_eq_true_eq] at h2
 cases h3:(decide (1≤c)&&decide (c≤2))
 ·exact ⟨false,rfl,rfl,⟨fun h=>(by cases h),fun h=>absurd h.2.2 (hi h3)⟩⟩
 rw [Bool.and_eq_true,decide_eq_true_eq,decide_eq_true_eq] at h3;refine ⟨_,rfl,rfl,?_⟩;rw [decide_eq_true_eq];exact ⟨fun h=>⟨h1,h2,h3,by omega⟩,fun h=>by have:=h.2.2.2;omega⟩
theorem K9 (xs:aV) (h:xs.length≤1048576):∃b,gz xs=some (b,())∧jl xs=some (b,())∧(b=true↔fh xs xs.length):=by
 obtain ⟨b,h1,h2⟩:=CU xs h;refine ⟨b,h1,h2,?_⟩;obtain ⟨e,he,hq⟩:=dG (round:=fW) (x:=(xs,((0:Nat):Int),())) xs.length (fun k x=>x=(xs,((k:Nat):Int),())∧fh xs k) (fun e=>(e=.inl ()∧fh xs xs.length)∨(e=.inr (false,())∧¬fh xs xs.length)) (by
   rintro x ⟨rfl,g⟩
   exact ⟨.inl (),by simp only [fW,mw,aw,aM,cond_false],.inl ⟨rfl,g⟩⟩) (by
   rintro k x hk ⟨rfl,g⟩
   obtain ⟨b,r1,_,r3⟩:=Ol xs[k].1 xs[k].2.1 xs[k].2.2.1 xs[k].2.2.2.1;have r3:b=true↔pT xs[k]:=r3;simp only [fW,mw,aw,aE hk,ax,cond_true,aF,List.getElem?_eq_getElem hk,Option.bind_some,r1,aN (show k<4611686018427387904 by omega)];have more:pT xs[k]→(∀h0:0<k,xs[k-1].1<xs[k].1)→fh xs (k+1):=fun q1 q2 j hj Nx=>by
    by_cases e:j<k
    ·exact g j hj e
    ·have:j=k:=by omega
     subst this;exact ⟨q1,q2⟩
   cases b
   ·exact .inl ⟨.inr (false,()),rfl,.inr ⟨rfl,fun hn=>absurd (r3.2 (hn k hk hk).1) (by simp)⟩⟩
   ·have q1:=r3.1 rfl
    by_cases h0:0<k
    ·have hp:k-1<xs.length:=by omega
     rw [uV h0 (by omega)];simp only [ak (show (0:Int)<((k:Nat):Int) by omega),Bool.not_true,cond_false,cond_true,ax,aF,List.getElem?_eq_getElem hp,Option.bind_some]
     by_cases hs:xs[k].1≤xs[k-1].1
     ·rw [ak hs];refine .inl ⟨.inr (false,()),rfl,.inr ⟨rfl,fun hn => ?_⟩⟩;have:=(hn k hk hk).2 h0;omega
     ·rw [aq hs];exact .inr ⟨_,rfl,rfl,more q1 (fun _=>by omega)⟩
    ·have:k=0:=by omega
     subst this;simp only [aq (show ¬(0:Int)<((0:Nat):Int) by omega),Bool.not_true,cond_false];exact .inr ⟨_,rfl,rfl,more q1 (fun h=>absurd h (by omega))⟩) ⟨rfl,fun j _ h=>by omega⟩
 have he:aJ fW (xs,(0:Int),())=some e:=he;unfold gz at h1;rw [he] at h1;rcases hq with ⟨rfl,g⟩ | ⟨rfl,g⟩
 ·injection h1 with h1;injection h1 with h1 _;exact ⟨fun _=>g,fun _=>h1.symm⟩
 ·injection h1 with h1;injection h1 with h1 _;subst h1;exact ⟨fun h=>(by cases h),fun h=>absurd h g⟩
theorem La {α:Type} (f:α→Nat) (c:Nat):(xs:List α)→(∀x∈xs,f x≤c)→wl f xs≤c*xs.length
 | [],_=>Nat.zero_le _
 |x::xs,h=>by
  rw [sf,List.length_cons,Nat.mul_succ];have:=La f c xs (fun y hy=>h y (List.mem_cons_of_mem _ hy));have:=h x List.mem_cons_self;omega
theorem Lc (xs:aV) (h:fh xs xs.length):∀k (hk:k<xs.length),((k+1:Nat):Int)≤xs[k].1
 |0,hk=>by have:=(h 0 hk hk).1.1.1;omega
 |k+1,hk=>by
  have h1:=Lc xs h k (by omega);have h2:=(h (k+1) hk hk).2 (by omega);have h2:xs[k].1<xs[k+1].1:=h2;omega
theorem dD (xs:aV) (h:fh xs xs.length):xs.length≤60∧wl dJ xs≤3600:=by
 have h1:xs.length≤60:=by
  by_cases h0:0<xs.length
  ·have:=Lc xs h (xs.length-1) (by omega);have:=(h (xs.length-1) (by omega) (by omega)).1.1.2;omega
  ·omega
 refine ⟨h1,Nat.le_trans (La dJ 60 xs fun x hx => ?_) (by omega)⟩;obtain ⟨k,hk,rfl⟩:=List.mem_iff_getElem.1 hx;exact (h k hk hk).1.2.2.2
theorem Gg (xs:List (ByteArray×Unit)) (h:kM xs xs.length):wl Jx xs≤60*xs.length:=by
 refine La Jx 60 xs fun x hx => ?_
 obtain ⟨k,hk,rfl⟩:=List.mem_iff_getElem.1 hx;exact h k hk hk
structure Xz (c0 c1:Int) (c2:List (Int×Unit)) (c3:aV) (c4:List (Int×Unit)) (c5:List (ByteArray×Unit)) (c6 c7 c8 c9:Int) (c15:List (Int×Unit)):Prop where
 ring:1≤c2.length∧c2.length≤5
 items:fh c3 c3.length
 texts:c5.length≤20∧c4.length=c5.length
 Yq:xW c4 c4.length
 short:kM c5 c5.length
 round:0≤c6∧c6≤1000000000
 seen:0≤c7∧c7≤60
 aru:∃n:Nat,ie c3=some (((n:Nat):Int),())∧jQ c3=some (((n:Nat):Int),())∧R2 c3 n∧(0≤c8∧c8≤((n:Nat):Int))∧0≤c9∧c9≤((n:Nat):Int)
 ak7:c15.length≤20
theorem Ue {c0 c1 c2 c3 c4:Int} {xs:List (Int×Unit)} (h:dR c0 c1 c2 c3 c4 xs=some (true,())):xs.length=0:=by
 unfold dR at h
 by_cases h0:((List.length xs:Nat):Int)=0
 ·omega
 ·exfalso
  rw [aq h0] at h
  revert h
  cases decide (c0=(0:Int))<;>cases decide (c1=(0:Int))<;>cases decide (c2=(0:Int))<;>cases decide (c3=(0:Int))<;>cases decide (c4=(0:Int))<;>intro h<;>cases h
theorem lN {p q:Prop} [Decidable p] [Decidable q] (h:(decide p&&decide q)=true):p∧q:=by
 rw [Bool.and_eq_true,decide_eq_true_eq,decide_eq_true_eq] at h;exact h
theorem XA (eM:Int) (eA:Int) (dW:List (Int×Unit)) (dQ:aV) (dw:List (Int×Unit)) (dX:List (ByteArray×Unit)) (eX:Int) (fm:Int) (fo:Int) (fp:Int) (cH:Int) (cI:Int) (cJ:Int) (cK:Int) (cL:Int) (cA:List (Int×Unit))
  (h0:(List.length dW+wl jV dW)+(List.length dQ+wl dJ dQ)+(List.length dw+wl jV dw)+(List.length dX+wl Jx dX)+(List.length cA+wl jV cA)≤1048576):∃b,fq eM eA dW dQ dw dX eX fm fo fp cH cI cJ cK cL cA=some (b,())∧gW eM eA dW dQ dw dX eX fm fo fp cH cI cJ cK cL cA=some (b,())∧
   (b=true→Xz eM eA dW dQ dw dX eX fm fo fp cA):=by
 obtain ⟨b,k1,k2⟩:=Gf eM eA dW dQ dw dX eX fm fo fp cH cI cJ cK cL cA h0;refine ⟨b,k1,k2,fun hb => ?_⟩;subst hb;obtain ⟨b1,r1,_,r3⟩:=BO eA dW (by omega);obtain ⟨b2,c1,_⟩:=ph eM dW (by omega);obtain ⟨b3,i1,_,i3⟩:=K9 dQ (by omega);obtain ⟨b4,t1,t2⟩:=CX dw dX (by omega) (by omega);obtain ⟨n,a1,a2,a3⟩:=Eb dQ (by omega);obtain ⟨b6,z1,z2⟩:=zy cH cI cJ cK cL cA;obtain ⟨b7,w1,_,w3⟩:=wc cH cI cJ cK cL cA (by omega);unfold fq at k1;simp only [r1,c1,i1,t1,a1,z1,w1,mG,Option.bind_some] at k1
 cases b1
 ·cases k1
 cases b2
 ·cases k1
 cases b3
 ·cases k1
 cases b4
 ·cases k1
 simp only [Bool.not_true,cond_false] at k1
 cases e5:(decide ((0:Int)≤eX)&&decide (eX≤1000000000))
 ·rw [e5] at k1;cases k1
 cases e6:(decide ((0:Int)≤fm)&&decide (fm≤60))
 ·rw [e5,e6] at k1;cases k1
 cases e8:(decide ((0:Int)≤fo)&&decide (fo≤((n:Nat):Int)))
 ·rw [e5,e6,e8] at k1;cases k1
 cases e9:(decide ((0:Int)≤fp)&&decide (fp≤((n:Nat):Int)))
 ·rw [e5,e6,e8,e9] at k1;cases k1
 rw [e5,e6,e8,e9] at k1;obtain ⟨t3,t4,t5,t6⟩:=t2.1 rfl;refine ⟨r3 rfl,i3.1 rfl,⟨t3,t4⟩,t5,t6,lN e5,lN e6,⟨n,a1,a2,a3,lN e8,lN e9⟩,?_⟩
 cases b6
 ·cases b7
  ·cases k1
  ·exact (w3 rfl).2.2.2.2.1
 ·have:=Ue z2;omega
theorem Xz.small {c0 c1:Int} {c2:List (Int×Unit)} {c3:aV} {c4:List (Int×Unit)} {c5:List (ByteArray×Unit)} {c6 c7 c8 c9:Int} {c15:List (Int×Unit)} (h:Xz c0 c1 c2 c3 c4 c5 c6 c7 c8 c9 c15) :
  (List.length c2+wl jV c2)+(List.length c3+wl dJ c3)+(List.length c4+wl jV c4)+(List.length c5+wl Jx c5)+(List.length c15+wl jV c15)≤5000:=by
 have h1:=dD c3 h.items;have h2:=Gg c5 h.short;have h3:=h.texts;have h4:=h.ring;have h5:=h.ak7;rw [nc jV (fun _=>rfl),nc jV (fun _=>rfl),nc jV (fun _=>rfl)];omega
theorem wT (xs:aV) (h:xs.length≤1048576):dt xs=some (xs,()):=by
 unfold dt;rw [aT (show (0+xs.length)*40≤lim by unfold lim;omega)];rfl
theorem Mp (xs:List (ByteArray×Unit)) (h:xs.length≤1048576):lh xs=some (xs,()):=by
 unfold lh;rw [aT (show (0+xs.length)*16≤lim by unfold lim;omega)];rfl
theorem nS (eM:Int) (eA:Int) (dW:List (Int×Unit)) (dQ:aV) (dw:List (Int×Unit)) (dX:List (ByteArray×Unit)) (eX:Int) (fm:Int) (fo:Int) (fp:Int) (cH:Int) (cI:Int) (cJ:Int) (cK:Int) (cL:Int) (cA:List (Int×Unit))
  (h0:(List.length dW+wl jV dW)+(List.length dQ+wl dJ dQ)+(List.length dw+wl jV dw)+(List.length dX+wl Jx dX)+(List.length cA+wl jV cA)≤1048576) :
  gC eM eA dW dQ dw dX eX fm fo fp cH cI cJ cK cL cA=some (eM,eA,dW,dQ,dw,dX,eX,fm,fo,fp,cH,cI,cJ,cK,cL,cA,())∧
  fS eM eA dW dQ dw dX eX fm fo fp cH cI cJ cK cL cA=some (eM,eA,dW,dQ,dw,dX,eX,fm,fo,fp,cH,cI,cJ,cK,cL,cA,()):=by
 obtain ⟨t1,t2⟩:=mo cH cI cJ cK cL cA (by omega)
 constructor
 ·unfold gC;rw [aT (show (0+dW.length)*8≤lim by unfold lim;omega),aT (show (0+dQ.length)*40≤lim by unfold lim;omega),aT (show (0+dw.length)*8≤lim by unfold lim;omega),aT (show (0+dX.length)*16≤lim by unfold lim;omega),t1];rfl
 ·unfold fS bM;rw [lL dW (by omega),wT dQ (by omega),lL dw (by omega),Mp dX (by omega),t2];rfl
end Go.TM
set_option linter.unusedSimpArgs false
set_option linter.unusedVariables false
namespace Go.TM
open Go
abbrev dC:Type:=List (Int×Unit)
abbrev lT:Type:=Int×Int×Int×Int×Int×dC×Unit
abbrev jc:Type:=Int×Int×dC×aV×dC×(List (ByteArray×Unit))×Int×Int×Int×Int×Int×Int×Int×Int×Int×dC×Unit
abbrev tK:Type:=Int×Int×dC×Int×Int×Int×ByteArray×dC×Unit
abbrev bZ:Type:=Int×Bool×Int×Int×dC×aV×dC×(List (ByteArray×Unit))×Int×Int×Int×Int×Int×Int×Int×Int×Int×dC×Int×Int×Int×dC×(List dS)×(List tK)×Unit
def Om (xs:dC) (n:Nat):Prop:=∀k (h:k<xs.length),k<n→(1≤xs[k].1∧xs[k].1≤5)∧∀h0:0<k,xs[k-1].1<xs[k].1
def js (c:Int) (xs:dC):Prop:=(1≤c∧c≤9)∧(1≤xs.length∧xs.length≤5)∧Om xs xs.length
theorem XB (c:Int) (xs:dC) (h:xs.length≤1048576):∃b,ee c xs=some (b,())∧gV c xs=some (b,())∧(b=true↔js c xs):=by
 obtain ⟨b,h1,h2,_⟩:=BO c xs h;refine ⟨b,h1,h2,?_⟩;obtain ⟨e,he,hq⟩:=dG (round:=gx) (x:=(c,xs,((0:Nat):Int),())) xs.length (fun k x=>x=(c,xs,((k:Nat):Int),())∧Om xs k) (fun e=>(e=.inl ()∧Om xs xs.length)∨(e=.inr (false,())∧¬Om xs xs.length)) (by
   rintro x ⟨rfl,g⟩
   exact ⟨.inl (),by simp only [gx,nG,aM,cond_false],.inl ⟨rfl,g⟩⟩) (by
   rintro k x hk ⟨rfl,g⟩
   simp only [gx,nG,aE hk,ax,cond_true,aF,List.getElem?_eq_getElem hk,Option.bind_some,mG,aN (show k<4611686018427387904 by omega)];have more:(1≤xs[k].1∧xs[k].1≤5)→(∀h0:0<k,xs[k-1].1<xs[k].1)→Om xs (k+1):=fun q1 q2 j hj Nx=>by
    by_cases e:j<k
    ·exact g j hj e
    ·have:j=k:=by omega
     subst this;exact ⟨q1,q2⟩
   cases hb:(decide (1≤xs[k].1)&&decide (xs[k].1≤5))
   ·exact .inl ⟨.inr (false,()),rfl,.inr ⟨rfl,fun hn=>by
     have:=(hn k hk hk).1;rw [ak this.1,ak this.2] at hb
     cases hb⟩⟩
   ·have q1:=lN hb
    by_cases h0:0<k
    ·have hp:k-1<xs.length:=by omega
     rw [uV h0 (by omega)];simp only [ak (show (0:Int)<((k:Nat):Int) by omega),Bool.not_true,cond_false,cond_true,ax,aF,List.getElem?_eq_getElem hp,Option.bind_some]
     by_cases hs:xs[k].1≤xs[k-1].1
     ·rw [ak hs];refine .inl ⟨.inr (false,()),rfl,.inr ⟨rfl,fun hn => ?_⟩⟩;have:=(hn k hk hk).2 h0;omega
     ·rw [aq hs];exact .inr ⟨_,rfl,rfl,more q1 (fun _=>by omega)⟩
    ·have:k=0:=by omega
     subst this;simp only [aq (show ¬(0:Int)<((0:Nat):Int) by omega),Bool.not_true,cond_false];exact .inr ⟨_,rfl,rfl,more q1 (fun h=>absurd h (by omega))⟩) ⟨rfl,fun j _ h=>by omega⟩
 have he:aJ gx (c,xs,(0:Int),())=some e:=he;unfold ee at h1;simp only [mG,Option.bind_some,he] at h1;unfold js
 cases a1:(decide (1≤c)&&decide (c≤9))
 ·rw [a1] at h1;injection h1 with h1;injection h1 with h1 _;subst h1;refine ⟨fun h=>(by cases h),fun h => ?_⟩;rw [ak h.1.1,ak h.1.2] at a1
  cases a1
 cases a2:(decide (1≤((List.length xs:Nat):Int))&&decide (((List.length xs:Nat):Int)≤5))
 ·rw [a1,a2] at h1;injection h1 with h1;injection h1 with h1 _;subst h1;refine ⟨fun h=>(by cases h),fun h => ?_⟩;rw [ak (show (1:Int)≤((List.length xs:Nat):Int) by omega),ak (show ((List.length xs:Nat):Int)≤5 by omega)] at a2
  cases a2
 rw [a1,a2] at h1;have a1:=lN a1;have a2:=lN a2;rcases hq with ⟨rfl,g⟩ | ⟨rfl,g⟩
 ·injection h1 with h1;injection h1 with h1 _;exact ⟨fun _=>⟨a1,by omega,g⟩,fun _=>h1.symm⟩
 ·injection h1 with h1;injection h1 with h1 _;subst h1;exact ⟨fun h=>(by cases h),fun h=>absurd h.2.2 g⟩
noncomputable def qS (c:Int) (xs:dC):Bool:=match ee c xs with | some x=>x.1 | none=>false
theorem ou (c:Int) (xs:dC) (h:xs.length≤1048576):ee c xs=some (qS c xs,())∧gV c xs=some (qS c xs,())∧(qS c xs=true↔js c xs):=by
 obtain ⟨b,h1,h2,h3⟩:=XB c xs h;have:qS c xs=b:=by unfold qS;rw [h1]
 rw [this];exact ⟨h1,h2,h3⟩
noncomputable def m9 (xs:aV):Bool:=match gz xs with | some x=>x.1 | none=>false
theorem pj (xs:aV) (h:xs.length≤1048576):gz xs=some (m9 xs,())∧jl xs=some (m9 xs,())∧(m9 xs=true↔fh xs xs.length):=by
 obtain ⟨b,h1,h2,h3⟩:=K9 xs h;have:m9 xs=b:=by unfold m9;rw [h1]
 rw [this];exact ⟨h1,h2,h3⟩
noncomputable def zX (r:dY):Bool:=match kG r.1 r.2.1 r.2.2.1 r.2.2.2.1 with | some x=>x.1 | none=>false
theorem zz (r:dY):kG r.1 r.2.1 r.2.2.1 r.2.2.2.1=some (zX r,())∧l5 r.1 r.2.1 r.2.2.1 r.2.2.2.1=some (zX r,())∧(zX r=true↔pT r):=by
 obtain ⟨b,h1,h2,h3⟩:=Ol r.1 r.2.1 r.2.2.1 r.2.2.2.1;have:zX r=b:=by unfold zX;rw [h1]
 rw [this];exact ⟨h1,h2,h3⟩
def B6 (b:dS):Prop:=(1≤b.1∧b.1≤5)∧(1≤b.2.1∧b.2.1≤9)∧(0≤b.2.2.1∧b.2.2.1≤b.2.1-1)∧fh b.2.2.2.1 b.2.2.2.1.length∧(0<b.2.2.1∨b.2.2.2.1.length=0)
theorem qT {p q:Prop} [Decidable p] [Decidable q]:(decide p&&decide q)=true↔p∧q:=by
 rw [Bool.and_eq_true,decide_eq_true_eq,decide_eq_true_eq]
theorem Ee (b:dS) (h:b.2.2.2.1.length≤1048576):lM b=true↔B6 b:=by
 obtain ⟨h1,_⟩:=rW b h;obtain ⟨i1,_,i3⟩:=pj b.2.2.2.1 h;unfold iu at h1;simp only [mG,Option.bind_some,i1] at h1;unfold B6;rw [←i3]
 cases a1:(decide (1≤b.1)&&decide (b.1≤5))
 ·rw [a1] at h1;injection h1 with h1;injection h1 with h1 _;rw [←h1];exact ⟨fun h=>(by cases h),fun h=>by rw [qT.2 h.1] at a1;cases a1⟩
 cases a2:(decide (1≤b.2.1)&&decide (b.2.1≤9))
 ·rw [a1,a2] at h1;injection h1 with h1;injection h1 with h1 _;rw [←h1];exact ⟨fun h=>(by cases h),fun h=>by rw [qT.2 h.2.1] at a2;cases a2⟩
 have c2:=lN a2;rw [cD (by omega) (by omega)] at h1
 cases a3:(decide (0≤b.2.2.1)&&decide (b.2.2.1≤b.2.1-1))
 ·rw [a1,a2,a3] at h1;injection h1 with h1;injection h1 with h1 _;rw [←h1];exact ⟨fun h=>(by cases h),fun h=>by rw [qT.2 h.2.2.1] at a3;cases a3⟩
 cases a4:m9 b.2.2.2.1
 ·rw [a1,a2,a3,a4] at h1;injection h1 with h1;injection h1 with h1 _;rw [←h1];exact ⟨fun h=>(by cases h),fun h=>by cases h.2.2.2.1⟩
 rw [a1,a2,a3,a4] at h1
 by_cases a5:0<b.2.2.1
 ·rw [ak a5] at h1;injection h1 with h1;injection h1 with h1 _;rw [←h1];exact ⟨fun _=>⟨lN a1,c2,lN a3,rfl,.inl a5⟩,fun _=>rfl⟩
 ·rw [aq a5] at h1;injection h1 with h1;injection h1 with h1 _;rw [←h1];refine ⟨fun h=>⟨lN a1,c2,lN a3,rfl,.inr ?_⟩,fun h => ?_⟩
  ·have:=of_decide_eq_true h;omega
  ·exact decide_eq_true (by rcases h.2.2.2.2 with q | q<;>omega)
theorem Uf (c0 c1 c2 c3 c4:Int) (xs:dC):∃b,fy c0 c1 c2 c3 c4 xs=some (b,())∧dR c0 c1 c2 c3 c4 xs=some (b,())∧(b=true↔c0=0∧c1=0∧c2=0∧c3=0∧c4=0∧xs=[]):=by
 obtain ⟨b,h1,h2⟩:=zy c0 c1 c2 c3 c4 xs;refine ⟨b,h1,h2,?_⟩;unfold dR at h2;have hl:((List.length xs:Nat):Int)=0↔xs=[]:=by rw [←List.length_eq_zero_iff];omega
 by_cases e0:c0=0
 case neg=>simp [aq e0] at h2;subst h2;simp [e0]
 by_cases e1:c1=0
 case neg=>simp [ak e0,aq e1] at h2;subst h2;simp [e1]
 by_cases e2:c2=0
 case neg=>simp [ak e0,ak e1,aq e2] at h2;subst h2;simp [e2]
 by_cases e3:c3=0
 case neg=>simp [ak e0,ak e1,ak e2,aq e3] at h2;subst h2;simp [e3]
 by_cases e4:c4=0
 case neg=>simp [ak e0,ak e1,ak e2,ak e3,aq e4] at h2;subst h2;simp [e4]
 by_cases e5:((List.length xs:Nat):Int)=0
 ·rw [ak e0,ak e1,ak e2,ak e3,ak e4,ak e5] at h2;injection h2 with h2;injection h2 with h2 _;exact ⟨fun _=>⟨e0,e1,e2,e3,e4,hl.1 e5⟩,fun _=>h2.symm⟩
 ·rw [ak e0,ak e1,ak e2,ak e3,ak e4,aq e5] at h2;injection h2 with h2;injection h2 with h2 _;subst h2;exact ⟨fun h=>(by cases h),fun h=>absurd (hl.2 h.2.2.2.2.2) e5⟩
def Blank (t:lT):Prop:=t.1=0∧t.2.1=0∧t.2.2.1=0∧t.2.2.2.1=0∧t.2.2.2.2.1=0∧t.2.2.2.2.2.1=[]
noncomputable def wg (t:lT):Bool:=match fy t.1 t.2.1 t.2.2.1 t.2.2.2.1 t.2.2.2.2.1 t.2.2.2.2.2.1 with | some x=>x.1 | none=>false
theorem wh (t:lT):fy t.1 t.2.1 t.2.2.1 t.2.2.2.1 t.2.2.2.2.1 t.2.2.2.2.2.1=some (wg t,())∧dR t.1 t.2.1 t.2.2.1 t.2.2.2.1 t.2.2.2.2.1 t.2.2.2.2.2.1=some (wg t,())∧(wg t=true↔Blank t):=by
 obtain ⟨b,h1,h2,h3⟩:=Uf t.1 t.2.1 t.2.2.1 t.2.2.2.1 t.2.2.2.2.1 t.2.2.2.2.2.1;have:wg t=b:=by unfold wg;rw [h1]
 rw [this];exact ⟨h1,h2,h3⟩
def Mq (t:lT):Prop:=agn t.1 t.2.1 t.2.2.1 t.2.2.2.1 t.2.2.2.2.1 t.2.2.2.2.2.1
noncomputable def Jy (t:lT):Bool:=match eZ t.1 t.2.1 t.2.2.1 t.2.2.2.1 t.2.2.2.2.1 t.2.2.2.2.2.1 with | some x=>x.1 | none=>false
theorem Fq (t:lT) (h:t.2.2.2.2.2.1.length≤1048576):eZ t.1 t.2.1 t.2.2.1 t.2.2.2.1 t.2.2.2.2.1 t.2.2.2.2.2.1=some (Jy t,())∧iA t.1 t.2.1 t.2.2.1 t.2.2.2.1 t.2.2.2.2.1 t.2.2.2.2.2.1=some (Jy t,())∧(Jy t=true↔Mq t):=by
 obtain ⟨b,h1,h2,h3⟩:=K7 t.1 t.2.1 t.2.2.1 t.2.2.2.1 t.2.2.2.2.1 t.2.2.2.2.2.1 h;have:Jy t=b:=by unfold Jy;rw [h1]
 rw [this];exact ⟨h1,h2,h3⟩
noncomputable def dH (xs:aV):Nat:=match ie xs with | some x=>x.1.toNat | none=>0
theorem zA (xs:aV) (h:xs.length≤1048576):ie xs=some (((dH xs:Nat):Int),())∧jQ xs=some (((dH xs:Nat):Int),())∧R2 xs (dH xs):=by
 obtain ⟨n,h1,h2,h3⟩:=Eb xs h;have:dH xs=n:=by unfold dH;rw [h1];rfl
 rw [this];exact ⟨h1,h2,h3⟩
structure rb (m:jc):Prop where
 ring:js m.2.1 m.2.2.1
 mem:(m.1,())∈m.2.2.1
 items:fh m.2.2.2.1 m.2.2.2.1.length
 texts:m.2.2.2.2.2.1.length≤20∧m.2.2.2.2.1.length=m.2.2.2.2.2.1.length
 Yq:xW m.2.2.2.2.1 m.2.2.2.2.1.length
 short:kM m.2.2.2.2.2.1 m.2.2.2.2.2.1.length
 round:0≤m.2.2.2.2.2.2.1∧m.2.2.2.2.2.2.1≤1000000000
 seen:0≤m.2.2.2.2.2.2.2.1∧m.2.2.2.2.2.2.2.1≤60
 line:0≤m.2.2.2.2.2.2.2.2.1∧m.2.2.2.2.2.2.2.2.1≤((dH m.2.2.2.1:Nat):Int)
 heard:0≤m.2.2.2.2.2.2.2.2.2.1∧m.2.2.2.2.2.2.2.2.2.1≤((dH m.2.2.2.1:Nat):Int)
 last:Blank (m.2.2.2.2.2.2.2.2.2.2.1,m.2.2.2.2.2.2.2.2.2.2.2.1,m.2.2.2.2.2.2.2.2.2.2.2.2.1,m.2.2.2.2.2.2.2.2.2.2.2.2.2.1,m.2.2.2.2.2.2.2.2.2.2.2.2.2.2.1,m.2.2.2.2.2.2.2.2.2.2.2.2.2.2.2.1,())∨Mq (m.2.2.2.2.2.2.2.2.2.2.1,m.2.2.2.2.2.2.2.2.2.2.2.1,m.2.2.2.2.2.2.2.2.2.2.2.2.1,m.2.2.2.2.2.2.2.2.2.2.2.2.2.1,m.2.2.2.2.2.2.2.2.2.2.2.2.2.2.1,m.2.2.2.2.2.2.2.2.2.2.2.2.2.2.2.1,())
def mq (m:jc):Nat:=(List.length m.2.2.1+wl jV m.2.2.1)+(List.length m.2.2.2.1+wl dJ m.2.2.2.1)+(List.length m.2.2.2.2.1+wl jV m.2.2.2.2.1)+(List.length m.2.2.2.2.2.1+wl Jx m.2.2.2.2.2.1)+(List.length m.2.2.2.2.2.2.2.2.2.2.2.2.2.2.2.1+wl jV m.2.2.2.2.2.2.2.2.2.2.2.2.2.2.2.1)
noncomputable def uH (m:jc):Bool:=match fq m.1 m.2.1 m.2.2.1 m.2.2.2.1 m.2.2.2.2.1 m.2.2.2.2.2.1 m.2.2.2.2.2.2.1 m.2.2.2.2.2.2.2.1 m.2.2.2.2.2.2.2.2.1 m.2.2.2.2.2.2.2.2.2.1 m.2.2.2.2.2.2.2.2.2.2.1 m.2.2.2.2.2.2.2.2.2.2.2.1 m.2.2.2.2.2.2.2.2.2.2.2.2.1 m.2.2.2.2.2.2.2.2.2.2.2.2.2.1 m.2.2.2.2.2.2.2.2.2.2.2.2.2.2.1 m.2.2.2.2.2.2.2.2.2.2.2.2.2.2.2.1 with | some x=>x.1 | none=>false
theorem tL (m:jc) (h0:mq m≤1048576):fq m.1 m.2.1 m.2.2.1 m.2.2.2.1 m.2.2.2.2.1 m.2.2.2.2.2.1 m.2.2.2.2.2.2.1 m.2.2.2.2.2.2.2.1 m.2.2.2.2.2.2.2.2.1 m.2.2.2.2.2.2.2.2.2.1 m.2.2.2.2.2.2.2.2.2.2.1 m.2.2.2.2.2.2.2.2.2.2.2.1 m.2.2.2.2.2.2.2.2.2.2.2.2.1 m.2.2.2.2.2.2.2.2.2.2.2.2.2.1 m.2.2.2.2.2.2.2.2.2.2.2.2.2.2.1 m.2.2.2.2.2.2.2.2.2.2.2.2.2.2.2.1=some (uH m,())∧gW m.1 m.2.1 m.2.2.1 m.2.2.2.1 m.2.2.2.2.1 m.2.2.2.2.2.1 m.2.2.2.2.2.2.1 m.2.2.2.2.2.2.2.1 m.2.2.2.2.2.2.2.2.1 m.2.2.2.2.2.2.2.2.2.1 m.2.2.2.2.2.2.2.2.2.2.1 m.2.2.2.2.2.2.2.2.2.2.2.1 m.2.2.2.2.2.2.2.2.2.2.2.2.1 m.2.2.2.2.2.2.2.2.2.2.2.2.2.1 m.2.2.2.2.2.2.2.2.2.2.2.2.2.2.1 m.2.2.2.2.2.2.2.2.2.2.2.2.2.2.2.1=some (uH m,())∧(uH m=true↔rb m):=by
 obtain ⟨b,k1,k2⟩:=Gf m.1 m.2.1 m.2.2.1 m.2.2.2.1 m.2.2.2.2.1 m.2.2.2.2.2.1 m.2.2.2.2.2.2.1 m.2.2.2.2.2.2.2.1 m.2.2.2.2.2.2.2.2.1 m.2.2.2.2.2.2.2.2.2.1 m.2.2.2.2.2.2.2.2.2.2.1 m.2.2.2.2.2.2.2.2.2.2.2.1 m.2.2.2.2.2.2.2.2.2.2.2.2.1 m.2.2.2.2.2.2.2.2.2.2.2.2.2.1 m.2.2.2.2.2.2.2.2.2.2.2.2.2.2.1 m.2.2.2.2.2.2.2.2.2.2.2.2.2.2.2.1 h0;have hb:uH m=b:=by unfold uH;rw [k1]
 rw [hb];refine ⟨k1,k2,?_⟩;unfold mq at h0;obtain ⟨r1,_,r3⟩:=ou m.2.1 m.2.2.1 (by omega);have c1:=zw m.2.2.1 m.1 (by omega);obtain ⟨i1,_,i3⟩:=pj m.2.2.2.1 (by omega);obtain ⟨b4,t1,t2⟩:=CX m.2.2.2.2.1 m.2.2.2.2.2.1 (by omega) (by omega);obtain ⟨a1,a2,a3⟩:=zA m.2.2.2.1 (by omega);have z1:fy m.2.2.2.2.2.2.2.2.2.2.1 m.2.2.2.2.2.2.2.2.2.2.2.1 m.2.2.2.2.2.2.2.2.2.2.2.2.1 m.2.2.2.2.2.2.2.2.2.2.2.2.2.1 m.2.2.2.2.2.2.2.2.2.2.2.2.2.2.1 m.2.2.2.2.2.2.2.2.2.2.2.2.2.2.2.1=some (wg (m.2.2.2.2.2.2.2.2.2.2.1,m.2.2.2.2.2.2.2.2.2.2.2.1,m.2.2.2.2.2.2.2.2.2.2.2.2.1,m.2.2.2.2.2.2.2.2.2.2.2.2.2.1,m.2.2.2.2.2.2.2.2.2.2.2.2.2.2.1,m.2.2.2.2.2.2.2.2.2.2.2.2.2.2.2.1,()),()):=(wh (m.2.2.2.2.2.2.2.2.2.2.1,m.2.2.2.2.2.2.2.2.2.2.2.1,m.2.2.2.2.2.2.2.2.2.2.2.2.1,m.2.2.2.2.2.2.2.2.2.2.2.2.2.1,m.2.2.2.2.2.2.2.2.2.2.2.2.2.2.1,m.2.2.2.2.2.2.2.2.2.2.2.2.2.2.2.1,())).1;have z3:=(wh (m.2.2.2.2.2.2.2.2.2.2.1,m.2.2.2.2.2.2.2.2.2.2.2.1,m.2.2.2.2.2.2.2.2.2.2.2.2.1,m.2.2.2.2.2.2.2.2.2.2.2.2.2.1,m.2.2.2.2.2.2.2.2.2.2.2.2.2.2.1,m.2.2.2.2.2.2.2.2.2.2.2.2.2.2.2.1,())).2.2;have w1:eZ m.2.2.2.2.2.2.2.2.2.2.1 m.2.2.2.2.2.2.2.2.2.2.2.1 m.2.2.2.2.2.2.2.2.2.2.2.2.1 m.2.2.2.2.2.2.2.2.2.2.2.2.2.1 m.2.2.2.2.2.2.2.2.2.2.2.2.2.2.1 m.2.2.2.2.2.2.2.2.2.2.2.2.2.2.2.1=some (Jy (m.2.2.2.2.2.2.2.2.2.2.1,m.2.2.2.2.2.2.2.2.2.2.2.1,m.2.2.2.2.2.2.2.2.2.2.2.2.1,m.2.2.2.2.2.2.2.2.2.2.2.2.2.1,m.2.2.2.2.2.2.2.2.2.2.2.2.2.2.1,m.2.2.2.2.2.2.2.2.2.2.2.2.2.2.2.1,()),()):=(Fq (m.2.2.2.2.2.2.2.2.2.2.1,m.2.2.2.2.2.2.2.2.2.2.2.1,m.2.2.2.2.2.2.2.2.2.2.2.2.1,m.2.2.2.2.2.2.2.2.2.2.2.2.2.1,m.2.2.2.2.2.2.2.2.2.2.2.2.2.2.1,m.2.2.2.2.2.2.2.2.2.2.2.2.2.2.2.1,()) (by show m.2.2.2.2.2.2.2.2.2.2.2.2.2.2.2.1.length≤_;omega)).1;have w3:=(Fq (m.2.2.2.2.2.2.2.2.2.2.1,m.2.2.2.2.2.2.2.2.2.2.2.1,m.2.2.2.2.2.2.2.2.2.2.2.2.1,m.2.2.2.2.2.2.2.2.2.2.2.2.2.1,m.2.2.2.2.2.2.2.2.2.2.2.2.2.2.1,m.2.2.2.2.2.2.2.2.2.2.2.2.2.2.2.1,()) (by show m.2.2.2.2.2.2.2.2.2.2.2.2.2.2.2.1.length≤_;omega)).2.2;unfold fq at k1;simp only [r1,c1,i1,t1,a1,z1,w1,mG,Option.bind_some] at k1
 cases e1:qS m.2.1 m.2.2.1
 ·rw [e1] at k1;injection k1 with k1;injection k1 with k1 _;subst k1;exact ⟨fun h=>(by cases h),fun h=>by rw [r3.2 h.ring] at e1;cases e1⟩
 by_cases e2:(m.1,())∈m.2.2.1
 case neg=>
  rw [e1,aq e2] at k1;injection k1 with k1;injection k1 with k1 _;subst k1;exact ⟨fun h=>(by cases h),fun h=>absurd h.mem e2⟩
 cases e3:m9 m.2.2.2.1
 ·rw [e1,ak e2,e3] at k1;injection k1 with k1;injection k1 with k1 _;subst k1;exact ⟨fun h=>(by cases h),fun h=>by rw [i3.2 h.items] at e3;cases e3⟩
 cases b4
 ·rw [e1,ak e2,e3] at k1;injection k1 with k1;injection k1 with k1 _;subst k1;exact ⟨fun h=>(by cases h),fun h=>by have:=t2.2 ⟨h.texts.1,h.texts.2,h.Yq,h.short⟩;cases this⟩
 rw [e1,ak e2,e3] at k1;simp only [Bool.not_true,cond_false] at k1
 cases e5:(decide ((0:Int)≤m.2.2.2.2.2.2.1)&&decide (m.2.2.2.2.2.2.1≤1000000000))
 ·rw [e5] at k1;injection k1 with k1;injection k1 with k1 _;subst k1;exact ⟨fun h=>(by cases h),fun h=>by rw [qT.2 h.round] at e5;cases e5⟩
 cases e6:(decide ((0:Int)≤m.2.2.2.2.2.2.2.1)&&decide (m.2.2.2.2.2.2.2.1≤60))
 ·rw [e5,e6] at k1;injection k1 with k1;injection k1 with k1 _;subst k1;exact ⟨fun h=>(by cases h),fun h=>by rw [qT.2 h.seen] at e6;cases e6⟩
 cases e8:(decide ((0:Int)≤m.2.2.2.2.2.2.2.2.1)&&decide (m.2.2.2.2.2.2.2.2.1≤((dH m.2.2.2.1:Nat):Int)))
 ·rw [e5,e6,e8] at k1;injection k1 with k1;injection k1 with k1 _;subst k1;exact ⟨fun h=>(by cases h),fun h=>by rw [qT.2 h.line] at e8;cases e8⟩
 cases e9:(decide ((0:Int)≤m.2.2.2.2.2.2.2.2.2.1)&&decide (m.2.2.2.2.2.2.2.2.2.1≤((dH m.2.2.2.1:Nat):Int)))
 ·rw [e5,e6,e8,e9] at k1;injection k1 with k1;injection k1 with k1 _;subst k1;exact ⟨fun h=>(by cases h),fun h=>by rw [qT.2 h.heard] at e9;cases e9⟩
 rw [e5,e6,e8,e9] at k1;obtain ⟨t3,t4,t5,t6⟩:=t2.1 rfl;have mk:(Blank (m.2.2.2.2.2.2.2.2.2.2.1,m.2.2.2.2.2.2.2.2.2.2.2.1,m.2.2.2.2.2.2.2.2.2.2.2.2.1,m.2.2.2.2.2.2.2.2.2.2.2.2.2.1,m.2.2.2.2.2.2.2.2.2.2.2.2.2.2.1,m.2.2.2.2.2.2.2.2.2.2.2.2.2.2.2.1,())∨Mq (m.2.2.2.2.2.2.2.2.2.2.1,m.2.2.2.2.2.2.2.2.2.2.2.1,m.2.2.2.2.2.2.2.2.2.2.2.2.1,m.2.2.2.2.2.2.2.2.2.2.2.2.2.1,m.2.2.2.2.2.2.2.2.2.2.2.2.2.2.1,m.2.2.2.2.2.2.2.2.2.2.2.2.2.2.2.1,()))→rb m:=fun hl=>⟨r3.1 e1,e2,i3.1 e3,⟨t3,t4⟩,t5,t6,lN e5,lN e6,lN e8,lN e9,hl⟩
 cases e10:wg (m.2.2.2.2.2.2.2.2.2.2.1,m.2.2.2.2.2.2.2.2.2.2.2.1,m.2.2.2.2.2.2.2.2.2.2.2.2.1,m.2.2.2.2.2.2.2.2.2.2.2.2.2.1,m.2.2.2.2.2.2.2.2.2.2.2.2.2.2.1,m.2.2.2.2.2.2.2.2.2.2.2.2.2.2.2.1,())
 ·rw [e10] at k1
  cases e11:Jy (m.2.2.2.2.2.2.2.2.2.2.1,m.2.2.2.2.2.2.2.2.2.2.2.1,m.2.2.2.2.2.2.2.2.2.2.2.2.1,m.2.2.2.2.2.2.2.2.2.2.2.2.2.1,m.2.2.2.2.2.2.2.2.2.2.2.2.2.2.1,m.2.2.2.2.2.2.2.2.2.2.2.2.2.2.2.1,())
  ·rw [e11] at k1;injection k1 with k1;injection k1 with k1 _;subst k1;refine ⟨fun h=>(by cases h),fun h => ?_⟩;rcases h.last with q | q
   ·rw [z3.2 q] at e10;cases e10
   ·rw [w3.2 q] at e11;cases e11
  ·rw [e11] at k1;injection k1 with k1;injection k1 with k1 _;subst k1;exact ⟨fun _=>mk (.inr (w3.1 e11)),fun _=>rfl⟩
 ·rw [e10] at k1;injection k1 with k1;injection k1 with k1 _;subst k1;exact ⟨fun _=>mk (.inl (z3.1 e10)),fun _=>rfl⟩
theorem rb.small {m:jc} (h:rb m):mq m≤5000:=by
 have h1:=dD _ h.items;have h2:=Gg _ h.short;have h3:=h.texts;have h4:=h.ring.2.1;have h5:m.2.2.2.2.2.2.2.2.2.2.2.2.2.2.2.1.length≤20:=by
  rcases h.last with q | q
  ·rw [show m.2.2.2.2.2.2.2.2.2.2.2.2.2.2.2.1=[] from q.2.2.2.2.2];exact Nat.zero_le _
  ·exact q.2.2.2.2.2.1
 unfold mq;rw [nc jV (fun _=>rfl),nc jV (fun _=>rfl),nc jV (fun _=>rfl)];omega
end Go.TM
set_option linter.unusedSimpArgs false
set_option linter.unusedVariables false
namespace Go.TM
open Go
theorem IG (b x:Bool):(bif b then some (x,()) else some (false,()))=some ((b&&x),()):=by cases b<;>rfl
theorem On (b x:Bool):(bif !b then some (false,()) else some (x,()))=some ((b&&x),()):=by cases b<;>rfl
theorem uX (c:Int) (xs:List (Int×Unit)):fQ c xs=some ((decide (c=0)&&decide (((List.length xs:Nat):Int)=0)),())∧jE c xs=some ((decide (c=0)&&decide (((List.length xs:Nat):Int)=0)),()):=by
 unfold fQ jE;simp only [IG];exact ⟨trivial,trivial⟩
theorem Gh (eM:Int) (eA:Int) (dW:List (Int×Unit)) (dQ:aV) (dw:List (Int×Unit)) (dX:List (ByteArray×Unit)) (eX fm fo fp cH cI cJ cK cL:Int) (cA:List (Int×Unit)):∃b,gy eM eA dW dQ dw dX eX fm fo fp cH cI cJ cK cL cA=some (b,())∧ig eM eA dW dQ dw dX eX fm fo fp cH cI cJ cK cL cA=some (b,())∧(b=true→eA=0):=by
 obtain ⟨b6,z1,z2⟩:=zy cH cI cJ cK cL cA;obtain ⟨n1,n2⟩:=uX eA dW;unfold gy ig;simp only [z1,z2,n1,n2,Option.bind_some,IG,On];refine ⟨_,rfl,?_,fun h => ?_⟩
 ·congr 2
  ac_rfl
 ·simp only [Bool.and_eq_true,decide_eq_true_eq] at h;exact h.2.1.1
theorem Jz (bF:Int) (bX:Bool) (bV:Int) (bL:Int) (bN:List (Int×Unit)) (aC:aV) (bS:List (Int×Unit)) (bT:List (ByteArray×Unit)) (bY:Int) (ca:Int) (bj:Int) (bd:Int) (bk:Int) (bl:Int) (bm:Int) (bn:Int) (bo:Int) (bf:List (Int×Unit)) (aX:Int) (aU:Int) (aS:Int) (aQ:List (Int×Unit)) (aW:List (Int×Int×Int×(List (Int×Int×Int×ByteArray×Unit))×Unit)) (aZ:List (Int×Int×(List (Int×Unit))×Int×Int×Int×ByteArray×(List (Int×Unit))×Unit)) (h0:(List.length bN+wl jV bN)+(List.length aC+wl dJ aC)+(List.length bS+wl jV bS)+(List.length bT+wl Jx bT)+(List.length bf+wl jV bf)+(List.length aQ+wl jV aQ)+(List.length aW+wl ef aW)+(List.length aZ+wl bt aZ)≤1048576):∃o0,fA bF bX bV bL bN aC bS bT bY ca bj bd bk bl bm bn bo bf aX aU aS aQ aW aZ=some (o0,())∧cX bF bX bV bL bN aC bS bT bY ca bj bd bk bl bm bn bo bf aX aU aS aQ aW aZ=some (o0,()):=by
 have hm0:(List.length bN+wl jV bN)+(List.length aC+wl dJ aC)+(List.length bS+wl jV bS)+(List.length bT+wl Jx bT)+(List.length bf+wl jV bf)≤1048576:=by omega
 obtain ⟨nm,n1,n2,n3⟩:=Gh bV bL bN aC bS bT bY ca bj bd bk bl bm bn bo bf;obtain ⟨b,k1,k2,_⟩:=XA bV bL bN aC bS bT bY ca bj bd bk bl bm bn bo bf hm0;obtain ⟨r1,r2⟩:=uX aS aQ;obtain ⟨b8,q1,q2,_⟩:=BO aS aQ (by omega);obtain ⟨b9,c1,c2⟩:=ph bF aQ (by omega);obtain ⟨e,f,g1,g2,g3⟩:∃e f,aJ eR (bF,bX,bV,bL,bN,aC,bS,bT,bY,ca,bj,bd,bk,bl,bm,bn,bo,bf,aX,aU,aS,aQ,aW,aZ,(0:Int),())=some e∧aJ fR (bF,bX,bV,bL,bN,aC,bS,bT,bY,ca,bj,bd,bk,bl,bm,bn,bo,bf,aX,aU,aS,aQ,aW,aZ,aW,((List.length aW:Nat):Int),(0:Int),())=some f∧
   ((e=.inl ()∧f=.inl (bF,bX,bV,bL,bN,aC,bS,bT,bY,ca,bj,bd,bk,bl,bm,bn,bo,bf,aX,aU,aS,aQ,aW,aZ,()))∨(e=.inr (false,())∧f=.inr (bF,bX,bV,bL,bN,aC,bS,bT,bY,ca,bj,bd,bk,bl,bm,bn,bo,bf,aX,aU,aS,aQ,aW,aZ,false,()))):=by
  refine qj aW.length (fun k x y=>x=(bF,bX,bV,bL,bN,aC,bS,bT,bY,ca,bj,bd,bk,bl,bm,bn,bo,bf,aX,aU,aS,aQ,aW,aZ,((k:Nat):Int),())∧y=(bF,bX,bV,bL,bN,aC,bS,bT,bY,ca,bj,bd,bk,bl,bm,bn,bo,bf,aX,aU,aS,aQ,aW,aZ,aW,((List.length aW:Nat):Int),((k:Nat):Int),())) _ ?_ ⟨rfl,rfl⟩
  rintro k x y hk ⟨rfl,rfl⟩
  by_cases dM:k<aW.length
  ·have hw:=HH ef aW aW[k] (List.getElem_mem dM);have hl:(aW[k].2.2.2.1).length≤1048576:=by
    have:ef aW[k]=List.length aW[k].2.2.2.1+wl dJ aW[k].2.2.2.1:=rfl;omega
   obtain ⟨x,v1,v2⟩:=Ge aW[k].1 aW[k].2.1 aW[k].2.2.1 aW[k].2.2.2.1 hl;simp only [eR,az,lA,aw,fR,az,kZ,aw,aE dM,ax,cond_true,aF,List.getElem?_eq_getElem dM,Option.bind_some,v1,v2,aN (show k<4611686018427387904 by omega)]
   cases x
   ·exact .inl ⟨_,_,rfl,rfl,.inr ⟨rfl,rfl⟩⟩
   ·by_cases hn:aW[k].2.1=aS
    ·rw [ak hn];exact .inr ⟨dM,_,_,rfl,rfl,rfl,rfl⟩
    ·rw [aq hn];exact .inl ⟨_,_,rfl,rfl,.inr ⟨rfl,rfl⟩⟩
  ·have:k=aW.length:=by omega
   subst this;exact .inl ⟨.inl (),.inl (bF,bX,bV,bL,bN,aC,bS,bT,bY,ca,bj,bd,bk,bl,bm,bn,bo,bf,aX,aU,aS,aQ,aW,aZ,()),by simp only [eR,az,lA,aw,aM,cond_false],by simp only [fR,az,kZ,aw,aM,cond_false],.inl ⟨rfl,rfl⟩⟩
 unfold fA cX fP;delta bI;simp only [mG,wa,pS,n1,n2,k1,k2,r1,r2,q1,q2,c1,c2,g1,g2,Option.bind_some]
 cases (decide (1≤bF)&&decide (bF≤5))
 ·exact ⟨_,rfl,rfl⟩
 cases hB:(decide (0≤aX)&&decide (aX≤9))
 ·exact ⟨_,rfl,rfl⟩
 have hB:=lN hB;simp only [Bool.not_true,cond_false]
 cases bX
 ·cases nm
  ·cases b
   ·by_cases o0:bV=bF
    ·rw [ak o0];exact ⟨_,rfl,rfl⟩
    ·rw [aq o0];exact ⟨_,rfl,rfl⟩
   by_cases o0:bV=bF
   case neg=>rw [aq o0];exact ⟨_,rfl,rfl⟩
   rw [ak o0]
   by_cases o1:aU=bL
   case neg=>rw [aq o1];exact ⟨_,rfl,rfl⟩
   rw [ak o1]
   by_cases o2:aX<aU
   ·rw [ak o2,aq (show ¬aU≤aX by omega)];exact ⟨_,rfl,rfl⟩
   rw [aq o2,ak (show aU≤aX by omega)]
   cases (decide (aS=0)&&decide (((List.length aQ:Nat):Int)=0))
   ·cases b8
    ·exact ⟨_,rfl,rfl⟩
    cases b9
    ·exact ⟨_,rfl,rfl⟩
    cases (decide (IntKind.i64.wrap (aU+(1:Int))≤aS)&&decide (aS≤aX))
    ·exact ⟨_,rfl,rfl⟩
    rcases g3 with ⟨rfl,rfl⟩ | ⟨rfl,rfl⟩
    ·exact ⟨_,rfl,rfl⟩
    ·exact ⟨_,rfl,rfl⟩
   ·exact ⟨_,rfl,rfl⟩
  ·have h3:=n3 rfl
   by_cases o1:aU=bL
   case neg=>rw [aq o1];exact ⟨_,rfl,rfl⟩
   rw [ak o1]
   by_cases o2:aX<aU
   ·rw [ak o2,aq (show ¬aU≤aX by omega)];exact ⟨_,rfl,rfl⟩
   rw [aq o2,ak (show aU≤aX by omega)]
   cases (decide (aS=0)&&decide (((List.length aQ:Nat):Int)=0))
   ·cases b8
    ·exact ⟨_,rfl,rfl⟩
    cases b9
    ·exact ⟨_,rfl,rfl⟩
    cases (decide (IntKind.i64.wrap (aU+(1:Int))≤aS)&&decide (aS≤aX))
    ·exact ⟨_,rfl,rfl⟩
    rcases g3 with ⟨rfl,rfl⟩ | ⟨rfl,rfl⟩
    ·exact ⟨_,rfl,rfl⟩
    ·exact ⟨_,rfl,rfl⟩
   ·exact ⟨_,rfl,rfl⟩
 ·cases nm
  ·exact ⟨_,rfl,rfl⟩
  have h3:=n3 rfl
  by_cases o3:aU=0
  case neg=>rw [aq o3];exact ⟨_,rfl,rfl⟩
  rw [ak o3,ak (show aU=bL by omega),ak (show aU≤aX by omega)]
  cases (decide (aS=0)&&decide (((List.length aQ:Nat):Int)=0))
  ·exact ⟨_,rfl,rfl⟩
  by_cases o4:((List.length aW:Nat):Int)=0
  ·rw [ak o4,aq (show ¬(0:Int)<((List.length aW:Nat):Int) by omega)];exact ⟨_,rfl,rfl⟩
  ·rw [aq o4,ak (show (0:Int)<((List.length aW:Nat):Int) by omega)];exact ⟨_,rfl,rfl⟩
end Go.TM
set_option linter.unusedSimpArgs false
set_option linter.unusedVariables false
namespace Go.TM
open Go
abbrev aI (d:bZ):jc:=(d.2.2.1,d.2.2.2.1,d.2.2.2.2.1,d.2.2.2.2.2.1,d.2.2.2.2.2.2.1,d.2.2.2.2.2.2.2.1,d.2.2.2.2.2.2.2.2.1,d.2.2.2.2.2.2.2.2.2.1,d.2.2.2.2.2.2.2.2.2.2.1,d.2.2.2.2.2.2.2.2.2.2.2.1,d.2.2.2.2.2.2.2.2.2.2.2.2.1,d.2.2.2.2.2.2.2.2.2.2.2.2.2.1,d.2.2.2.2.2.2.2.2.2.2.2.2.2.2.1,d.2.2.2.2.2.2.2.2.2.2.2.2.2.2.2.1,d.2.2.2.2.2.2.2.2.2.2.2.2.2.2.2.2.1,d.2.2.2.2.2.2.2.2.2.2.2.2.2.2.2.2.2.1,())
def Ld (m:jc):Prop:=m.1=0∧m.2.1=0∧m.2.2.1=[]∧m.2.2.2.1=[]∧m.2.2.2.2.1=[]∧m.2.2.2.2.2.1=[]∧m.2.2.2.2.2.2.1=0∧m.2.2.2.2.2.2.2.1=0∧m.2.2.2.2.2.2.2.2.1=0∧m.2.2.2.2.2.2.2.2.2.1=0∧Blank (m.2.2.2.2.2.2.2.2.2.2.1,m.2.2.2.2.2.2.2.2.2.2.2.1,m.2.2.2.2.2.2.2.2.2.2.2.2.1,m.2.2.2.2.2.2.2.2.2.2.2.2.2.1,m.2.2.2.2.2.2.2.2.2.2.2.2.2.2.1,m.2.2.2.2.2.2.2.2.2.2.2.2.2.2.2.1,())
noncomputable def Bo (m:jc):Bool:=match gy m.1 m.2.1 m.2.2.1 m.2.2.2.1 m.2.2.2.2.1 m.2.2.2.2.2.1 m.2.2.2.2.2.2.1 m.2.2.2.2.2.2.2.1 m.2.2.2.2.2.2.2.2.1 m.2.2.2.2.2.2.2.2.2.1 m.2.2.2.2.2.2.2.2.2.2.1 m.2.2.2.2.2.2.2.2.2.2.2.1 m.2.2.2.2.2.2.2.2.2.2.2.2.1 m.2.2.2.2.2.2.2.2.2.2.2.2.2.1 m.2.2.2.2.2.2.2.2.2.2.2.2.2.2.1 m.2.2.2.2.2.2.2.2.2.2.2.2.2.2.2.1 with | some x=>x.1 | none=>false
theorem ZE {α:Type} (xs:List α):((List.length xs:Nat):Int)=0↔xs=[]:=by rw [←List.length_eq_zero_iff];omega
theorem Oo (m:jc):gy m.1 m.2.1 m.2.2.1 m.2.2.2.1 m.2.2.2.2.1 m.2.2.2.2.2.1 m.2.2.2.2.2.2.1 m.2.2.2.2.2.2.2.1 m.2.2.2.2.2.2.2.2.1 m.2.2.2.2.2.2.2.2.2.1 m.2.2.2.2.2.2.2.2.2.2.1 m.2.2.2.2.2.2.2.2.2.2.2.1 m.2.2.2.2.2.2.2.2.2.2.2.2.1 m.2.2.2.2.2.2.2.2.2.2.2.2.2.1 m.2.2.2.2.2.2.2.2.2.2.2.2.2.2.1 m.2.2.2.2.2.2.2.2.2.2.2.2.2.2.2.1=some (Bo m,())∧ig m.1 m.2.1 m.2.2.1 m.2.2.2.1 m.2.2.2.2.1 m.2.2.2.2.2.1 m.2.2.2.2.2.2.1 m.2.2.2.2.2.2.2.1 m.2.2.2.2.2.2.2.2.1 m.2.2.2.2.2.2.2.2.2.1 m.2.2.2.2.2.2.2.2.2.2.1 m.2.2.2.2.2.2.2.2.2.2.2.1 m.2.2.2.2.2.2.2.2.2.2.2.2.1 m.2.2.2.2.2.2.2.2.2.2.2.2.2.1 m.2.2.2.2.2.2.2.2.2.2.2.2.2.2.1 m.2.2.2.2.2.2.2.2.2.2.2.2.2.2.2.1=some (Bo m,())∧(Bo m=true↔Ld m):=by
 obtain ⟨b,k1,k2,_⟩:=Gh m.1 m.2.1 m.2.2.1 m.2.2.2.1 m.2.2.2.2.1 m.2.2.2.2.2.1 m.2.2.2.2.2.2.1 m.2.2.2.2.2.2.2.1 m.2.2.2.2.2.2.2.2.1 m.2.2.2.2.2.2.2.2.2.1 m.2.2.2.2.2.2.2.2.2.2.1 m.2.2.2.2.2.2.2.2.2.2.2.1 m.2.2.2.2.2.2.2.2.2.2.2.2.1 m.2.2.2.2.2.2.2.2.2.2.2.2.2.1 m.2.2.2.2.2.2.2.2.2.2.2.2.2.2.1 m.2.2.2.2.2.2.2.2.2.2.2.2.2.2.2.1;have hb:Bo m=b:=by unfold Bo;rw [k1]
 rw [hb];refine ⟨k1,k2,?_⟩;have z1:dR m.2.2.2.2.2.2.2.2.2.2.1 m.2.2.2.2.2.2.2.2.2.2.2.1 m.2.2.2.2.2.2.2.2.2.2.2.2.1 m.2.2.2.2.2.2.2.2.2.2.2.2.2.1 m.2.2.2.2.2.2.2.2.2.2.2.2.2.2.1 m.2.2.2.2.2.2.2.2.2.2.2.2.2.2.2.1=some (wg (m.2.2.2.2.2.2.2.2.2.2.1,m.2.2.2.2.2.2.2.2.2.2.2.1,m.2.2.2.2.2.2.2.2.2.2.2.2.1,m.2.2.2.2.2.2.2.2.2.2.2.2.2.1,m.2.2.2.2.2.2.2.2.2.2.2.2.2.2.1,m.2.2.2.2.2.2.2.2.2.2.2.2.2.2.2.1,()),()):=(wh (m.2.2.2.2.2.2.2.2.2.2.1,m.2.2.2.2.2.2.2.2.2.2.2.1,m.2.2.2.2.2.2.2.2.2.2.2.2.1,m.2.2.2.2.2.2.2.2.2.2.2.2.2.1,m.2.2.2.2.2.2.2.2.2.2.2.2.2.2.1,m.2.2.2.2.2.2.2.2.2.2.2.2.2.2.2.1,())).2.1;have z2:fy m.2.2.2.2.2.2.2.2.2.2.1 m.2.2.2.2.2.2.2.2.2.2.2.1 m.2.2.2.2.2.2.2.2.2.2.2.2.1 m.2.2.2.2.2.2.2.2.2.2.2.2.2.1 m.2.2.2.2.2.2.2.2.2.2.2.2.2.2.1 m.2.2.2.2.2.2.2.2.2.2.2.2.2.2.2.1=some (wg (m.2.2.2.2.2.2.2.2.2.2.1,m.2.2.2.2.2.2.2.2.2.2.2.1,m.2.2.2.2.2.2.2.2.2.2.2.2.1,m.2.2.2.2.2.2.2.2.2.2.2.2.2.1,m.2.2.2.2.2.2.2.2.2.2.2.2.2.2.1,m.2.2.2.2.2.2.2.2.2.2.2.2.2.2.2.1,()),()):=(wh (m.2.2.2.2.2.2.2.2.2.2.1,m.2.2.2.2.2.2.2.2.2.2.2.1,m.2.2.2.2.2.2.2.2.2.2.2.2.1,m.2.2.2.2.2.2.2.2.2.2.2.2.2.1,m.2.2.2.2.2.2.2.2.2.2.2.2.2.2.1,m.2.2.2.2.2.2.2.2.2.2.2.2.2.2.2.1,())).1;have z3:=(wh (m.2.2.2.2.2.2.2.2.2.2.1,m.2.2.2.2.2.2.2.2.2.2.2.1,m.2.2.2.2.2.2.2.2.2.2.2.2.1,m.2.2.2.2.2.2.2.2.2.2.2.2.2.1,m.2.2.2.2.2.2.2.2.2.2.2.2.2.2.1,m.2.2.2.2.2.2.2.2.2.2.2.2.2.2.2.1,())).2.2;obtain ⟨n1,n2⟩:=uX m.2.1 m.2.2.1;unfold gy at k1;simp only [z2,n1,Option.bind_some,IG,On] at k1;injection k1 with k1;injection k1 with k1 _;rw [←k1];unfold Ld;simp only [Bool.and_eq_true,decide_eq_true_eq,ZE,z3]
 constructor
 ·rintro ⟨a1,⟨a2,a3⟩,a4,a5,a6,a7,a8,a9,a10,a11⟩
  exact ⟨a1,a2,a3,a4,a5,a6,a7,a8,a9,a10,a11⟩
 ·rintro ⟨a1,a2,a3,a4,a5,a6,a7,a8,a9,a10,a11⟩
  exact ⟨a1,⟨a2,a3⟩,a4,a5,a6,a7,a8,a9,a10,a11⟩
structure xX (d:bZ):Prop where
 id:1≤d.1∧d.1≤5
 xY:0≤d.2.2.2.2.2.2.2.2.2.2.2.2.2.2.2.2.2.2.1∧d.2.2.2.2.2.2.2.2.2.2.2.2.2.2.2.2.2.2.1≤9
 dead:d.2.1=true→Ld (aI d)∧d.2.2.2.2.2.2.2.2.2.2.2.2.2.2.2.2.2.2.2.1=0∧d.2.2.2.2.2.2.2.2.2.2.2.2.2.2.2.2.2.2.2.2.1=0∧d.2.2.2.2.2.2.2.2.2.2.2.2.2.2.2.2.2.2.2.2.2.1=[]∧d.2.2.2.2.2.2.2.2.2.2.2.2.2.2.2.2.2.2.2.2.2.2.1=[]
 tM:Ld (aI d)∨(rb (aI d)∧d.2.2.1=d.1)
 old:d.2.2.2.2.2.2.2.2.2.2.2.2.2.2.2.2.2.2.2.1=d.2.2.2.1∧d.2.2.2.2.2.2.2.2.2.2.2.2.2.2.2.2.2.2.2.1≤d.2.2.2.2.2.2.2.2.2.2.2.2.2.2.2.2.2.2.1
 nT:(d.2.2.2.2.2.2.2.2.2.2.2.2.2.2.2.2.2.2.2.2.1=0∧d.2.2.2.2.2.2.2.2.2.2.2.2.2.2.2.2.2.2.2.2.2.1=[]∧d.2.2.2.2.2.2.2.2.2.2.2.2.2.2.2.2.2.2.2.2.2.2.1=[])∨(js d.2.2.2.2.2.2.2.2.2.2.2.2.2.2.2.2.2.2.2.2.1 d.2.2.2.2.2.2.2.2.2.2.2.2.2.2.2.2.2.2.2.2.2.1∧(d.1,())∈d.2.2.2.2.2.2.2.2.2.2.2.2.2.2.2.2.2.2.2.2.2.1∧(d.2.2.2.2.2.2.2.2.2.2.2.2.2.2.2.2.2.2.2.1+1≤d.2.2.2.2.2.2.2.2.2.2.2.2.2.2.2.2.2.2.2.2.1∧d.2.2.2.2.2.2.2.2.2.2.2.2.2.2.2.2.2.2.2.2.1≤d.2.2.2.2.2.2.2.2.2.2.2.2.2.2.2.2.2.2.1)∧∀b∈d.2.2.2.2.2.2.2.2.2.2.2.2.2.2.2.2.2.2.2.2.2.2.1,B6 b∧b.2.1=d.2.2.2.2.2.2.2.2.2.2.2.2.2.2.2.2.2.2.2.2.1)
def ow (d:bZ):Nat:=(List.length d.2.2.2.2.1+wl jV d.2.2.2.2.1)+(List.length d.2.2.2.2.2.1+wl dJ d.2.2.2.2.2.1)+(List.length d.2.2.2.2.2.2.1+wl jV d.2.2.2.2.2.2.1)+(List.length d.2.2.2.2.2.2.2.1+wl Jx d.2.2.2.2.2.2.2.1)+(List.length d.2.2.2.2.2.2.2.2.2.2.2.2.2.2.2.2.2.1+wl jV d.2.2.2.2.2.2.2.2.2.2.2.2.2.2.2.2.2.1)+(List.length d.2.2.2.2.2.2.2.2.2.2.2.2.2.2.2.2.2.2.2.2.2.1+wl jV d.2.2.2.2.2.2.2.2.2.2.2.2.2.2.2.2.2.2.2.2.2.1)+(List.length d.2.2.2.2.2.2.2.2.2.2.2.2.2.2.2.2.2.2.2.2.2.2.1+wl ef d.2.2.2.2.2.2.2.2.2.2.2.2.2.2.2.2.2.2.2.2.2.2.1)+(List.length d.2.2.2.2.2.2.2.2.2.2.2.2.2.2.2.2.2.2.2.2.2.2.2.1+wl bt d.2.2.2.2.2.2.2.2.2.2.2.2.2.2.2.2.2.2.2.2.2.2.2.1)
noncomputable def jd (d:bZ):Bool:=match fA d.1 d.2.1 d.2.2.1 d.2.2.2.1 d.2.2.2.2.1 d.2.2.2.2.2.1 d.2.2.2.2.2.2.1 d.2.2.2.2.2.2.2.1 d.2.2.2.2.2.2.2.2.1 d.2.2.2.2.2.2.2.2.2.1 d.2.2.2.2.2.2.2.2.2.2.1 d.2.2.2.2.2.2.2.2.2.2.2.1 d.2.2.2.2.2.2.2.2.2.2.2.2.1 d.2.2.2.2.2.2.2.2.2.2.2.2.2.1 d.2.2.2.2.2.2.2.2.2.2.2.2.2.2.1 d.2.2.2.2.2.2.2.2.2.2.2.2.2.2.2.1 d.2.2.2.2.2.2.2.2.2.2.2.2.2.2.2.2.1 d.2.2.2.2.2.2.2.2.2.2.2.2.2.2.2.2.2.1 d.2.2.2.2.2.2.2.2.2.2.2.2.2.2.2.2.2.2.1 d.2.2.2.2.2.2.2.2.2.2.2.2.2.2.2.2.2.2.2.1 d.2.2.2.2.2.2.2.2.2.2.2.2.2.2.2.2.2.2.2.2.1 d.2.2.2.2.2.2.2.2.2.2.2.2.2.2.2.2.2.2.2.2.2.1 d.2.2.2.2.2.2.2.2.2.2.2.2.2.2.2.2.2.2.2.2.2.2.1 d.2.2.2.2.2.2.2.2.2.2.2.2.2.2.2.2.2.2.2.2.2.2.2.1 with | some x=>x.1 | none=>false
theorem xX.arN {d:bZ} (h:xX d):0≤d.2.2.2.2.2.2.2.2.2.2.2.2.2.2.2.2.2.2.2.1:=by
 rcases h.tM with q | ⟨q,_⟩
 ·have h1:d.2.2.2.1=0:=q.2.1;have h2:=h.old.1;omega
 ·have h1:1≤d.2.2.2.1:=q.ring.1.1;have h2:=h.old.1;omega
theorem XC (d:bZ) (h:ow d≤1048576):∃e,aJ eR (d.1,d.2.1,d.2.2.1,d.2.2.2.1,d.2.2.2.2.1,d.2.2.2.2.2.1,d.2.2.2.2.2.2.1,d.2.2.2.2.2.2.2.1,d.2.2.2.2.2.2.2.2.1,d.2.2.2.2.2.2.2.2.2.1,d.2.2.2.2.2.2.2.2.2.2.1,d.2.2.2.2.2.2.2.2.2.2.2.1,d.2.2.2.2.2.2.2.2.2.2.2.2.1,d.2.2.2.2.2.2.2.2.2.2.2.2.2.1,d.2.2.2.2.2.2.2.2.2.2.2.2.2.2.1,d.2.2.2.2.2.2.2.2.2.2.2.2.2.2.2.1,d.2.2.2.2.2.2.2.2.2.2.2.2.2.2.2.2.1,d.2.2.2.2.2.2.2.2.2.2.2.2.2.2.2.2.2.1,d.2.2.2.2.2.2.2.2.2.2.2.2.2.2.2.2.2.2.1,d.2.2.2.2.2.2.2.2.2.2.2.2.2.2.2.2.2.2.2.1,d.2.2.2.2.2.2.2.2.2.2.2.2.2.2.2.2.2.2.2.2.1,d.2.2.2.2.2.2.2.2.2.2.2.2.2.2.2.2.2.2.2.2.2.1,d.2.2.2.2.2.2.2.2.2.2.2.2.2.2.2.2.2.2.2.2.2.2.1,d.2.2.2.2.2.2.2.2.2.2.2.2.2.2.2.2.2.2.2.2.2.2.2.1,(0:Int),())=some e∧((e=.inl ()∧∀b∈d.2.2.2.2.2.2.2.2.2.2.2.2.2.2.2.2.2.2.2.2.2.2.1,B6 b∧b.2.1=d.2.2.2.2.2.2.2.2.2.2.2.2.2.2.2.2.2.2.2.2.1)∨(e=.inr (false,())∧¬∀b∈d.2.2.2.2.2.2.2.2.2.2.2.2.2.2.2.2.2.2.2.2.2.2.1,B6 b∧b.2.1=d.2.2.2.2.2.2.2.2.2.2.2.2.2.2.2.2.2.2.2.2.1)):=by
 unfold ow at h;obtain ⟨e,he,hq⟩:=dG (round:=eR) (x:=(d.1,d.2.1,d.2.2.1,d.2.2.2.1,d.2.2.2.2.1,d.2.2.2.2.2.1,d.2.2.2.2.2.2.1,d.2.2.2.2.2.2.2.1,d.2.2.2.2.2.2.2.2.1,d.2.2.2.2.2.2.2.2.2.1,d.2.2.2.2.2.2.2.2.2.2.1,d.2.2.2.2.2.2.2.2.2.2.2.1,d.2.2.2.2.2.2.2.2.2.2.2.2.1,d.2.2.2.2.2.2.2.2.2.2.2.2.2.1,d.2.2.2.2.2.2.2.2.2.2.2.2.2.2.1,d.2.2.2.2.2.2.2.2.2.2.2.2.2.2.2.1,d.2.2.2.2.2.2.2.2.2.2.2.2.2.2.2.2.1,d.2.2.2.2.2.2.2.2.2.2.2.2.2.2.2.2.2.1,d.2.2.2.2.2.2.2.2.2.2.2.2.2.2.2.2.2.2.1,d.2.2.2.2.2.2.2.2.2.2.2.2.2.2.2.2.2.2.2.1,d.2.2.2.2.2.2.2.2.2.2.2.2.2.2.2.2.2.2.2.2.1,d.2.2.2.2.2.2.2.2.2.2.2.2.2.2.2.2.2.2.2.2.2.1,d.2.2.2.2.2.2.2.2.2.2.2.2.2.2.2.2.2.2.2.2.2.2.1,d.2.2.2.2.2.2.2.2.2.2.2.2.2.2.2.2.2.2.2.2.2.2.2.1,((0:Nat):Int),())) (d.2.2.2.2.2.2.2.2.2.2.2.2.2.2.2.2.2.2.2.2.2.2.1).length (fun k x=>x=(d.1,d.2.1,d.2.2.1,d.2.2.2.1,d.2.2.2.2.1,d.2.2.2.2.2.1,d.2.2.2.2.2.2.1,d.2.2.2.2.2.2.2.1,d.2.2.2.2.2.2.2.2.1,d.2.2.2.2.2.2.2.2.2.1,d.2.2.2.2.2.2.2.2.2.2.1,d.2.2.2.2.2.2.2.2.2.2.2.1,d.2.2.2.2.2.2.2.2.2.2.2.2.1,d.2.2.2.2.2.2.2.2.2.2.2.2.2.1,d.2.2.2.2.2.2.2.2.2.2.2.2.2.2.1,d.2.2.2.2.2.2.2.2.2.2.2.2.2.2.2.1,d.2.2.2.2.2.2.2.2.2.2.2.2.2.2.2.2.1,d.2.2.2.2.2.2.2.2.2.2.2.2.2.2.2.2.2.1,d.2.2.2.2.2.2.2.2.2.2.2.2.2.2.2.2.2.2.1,d.2.2.2.2.2.2.2.2.2.2.2.2.2.2.2.2.2.2.2.1,d.2.2.2.2.2.2.2.2.2.2.2.2.2.2.2.2.2.2.2.2.1,d.2.2.2.2.2.2.2.2.2.2.2.2.2.2.2.2.2.2.2.2.2.1,d.2.2.2.2.2.2.2.2.2.2.2.2.2.2.2.2.2.2.2.2.2.2.1,d.2.2.2.2.2.2.2.2.2.2.2.2.2.2.2.2.2.2.2.2.2.2.2.1,((k:Nat):Int),())∧∀j (hj:j<(d.2.2.2.2.2.2.2.2.2.2.2.2.2.2.2.2.2.2.2.2.2.2.1).length),j<k→B6 (d.2.2.2.2.2.2.2.2.2.2.2.2.2.2.2.2.2.2.2.2.2.2.1)[j]∧(d.2.2.2.2.2.2.2.2.2.2.2.2.2.2.2.2.2.2.2.2.2.2.1)[j].2.1=d.2.2.2.2.2.2.2.2.2.2.2.2.2.2.2.2.2.2.2.2.1)
  (fun e=>(e=.inl ()∧∀b∈d.2.2.2.2.2.2.2.2.2.2.2.2.2.2.2.2.2.2.2.2.2.2.1,B6 b∧b.2.1=d.2.2.2.2.2.2.2.2.2.2.2.2.2.2.2.2.2.2.2.2.1)∨(e=.inr (false,())∧¬∀b∈d.2.2.2.2.2.2.2.2.2.2.2.2.2.2.2.2.2.2.2.2.2.2.1,B6 b∧b.2.1=d.2.2.2.2.2.2.2.2.2.2.2.2.2.2.2.2.2.2.2.2.1)) (by
   rintro x ⟨rfl,g⟩
   refine ⟨.inl (),by simp only [eR,az,lA,aw,aM,cond_false],.inl ⟨rfl,fun b hb => ?_⟩⟩;obtain ⟨k,hk,rfl⟩:=List.mem_iff_getElem.1 hb;exact g k hk hk) (by
   rintro k x hk ⟨rfl,g⟩
   have hl:=Ec d.2.2.2.2.2.2.2.2.2.2.2.2.2.2.2.2.2.2.2.2.2.2.1 hk (by omega);have hb:=(rW (d.2.2.2.2.2.2.2.2.2.2.2.2.2.2.2.2.2.2.2.2.2.2.1)[k] hl).1;have hi:=Ee (d.2.2.2.2.2.2.2.2.2.2.2.2.2.2.2.2.2.2.2.2.2.2.1)[k] hl;simp only [eR,az,lA,aw,aE hk,ax,cond_true,aF,List.getElem?_eq_getElem hk,Option.bind_some,hb,aN (show k<4611686018427387904 by omega)]
   cases hv:lM (d.2.2.2.2.2.2.2.2.2.2.2.2.2.2.2.2.2.2.2.2.2.2.1)[k]
   ·exact .inl ⟨.inr (false,()),rfl,.inr ⟨rfl,fun hn=>by rw [hi.2 (hn _ (List.getElem_mem hk)).1] at hv;cases hv⟩⟩
   ·by_cases hn:(d.2.2.2.2.2.2.2.2.2.2.2.2.2.2.2.2.2.2.2.2.2.2.1)[k].2.1=d.2.2.2.2.2.2.2.2.2.2.2.2.2.2.2.2.2.2.2.2.1
    ·rw [ak hn];refine .inr ⟨_,rfl,rfl,fun j hj Nx => ?_⟩
     by_cases e:j<k
     ·exact g j hj e
     ·have:j=k:=by omega
      subst this;exact ⟨hi.1 hv,hn⟩
    ·rw [aq hn];exact .inl ⟨.inr (false,()),rfl,.inr ⟨rfl,fun hq=>hn (hq _ (List.getElem_mem hk)).2⟩⟩) ⟨rfl,fun j _ h=>by omega⟩
 exact ⟨e,he,hq⟩
theorem some_inj {a b:Bool} (h:some (a,())=some (b,())):a=b:=by
 injection h with h;injection h with h _
theorem j6 (d:bZ) (h:ow d≤1048576):fA d.1 d.2.1 d.2.2.1 d.2.2.2.1 d.2.2.2.2.1 d.2.2.2.2.2.1 d.2.2.2.2.2.2.1 d.2.2.2.2.2.2.2.1 d.2.2.2.2.2.2.2.2.1 d.2.2.2.2.2.2.2.2.2.1 d.2.2.2.2.2.2.2.2.2.2.1 d.2.2.2.2.2.2.2.2.2.2.2.1 d.2.2.2.2.2.2.2.2.2.2.2.2.1 d.2.2.2.2.2.2.2.2.2.2.2.2.2.1 d.2.2.2.2.2.2.2.2.2.2.2.2.2.2.1 d.2.2.2.2.2.2.2.2.2.2.2.2.2.2.2.1 d.2.2.2.2.2.2.2.2.2.2.2.2.2.2.2.2.1 d.2.2.2.2.2.2.2.2.2.2.2.2.2.2.2.2.2.1 d.2.2.2.2.2.2.2.2.2.2.2.2.2.2.2.2.2.2.1 d.2.2.2.2.2.2.2.2.2.2.2.2.2.2.2.2.2.2.2.1 d.2.2.2.2.2.2.2.2.2.2.2.2.2.2.2.2.2.2.2.2.1 d.2.2.2.2.2.2.2.2.2.2.2.2.2.2.2.2.2.2.2.2.2.1 d.2.2.2.2.2.2.2.2.2.2.2.2.2.2.2.2.2.2.2.2.2.2.1 d.2.2.2.2.2.2.2.2.2.2.2.2.2.2.2.2.2.2.2.2.2.2.2.1=some (jd d,())∧cX d.1 d.2.1 d.2.2.1 d.2.2.2.1 d.2.2.2.2.1 d.2.2.2.2.2.1 d.2.2.2.2.2.2.1 d.2.2.2.2.2.2.2.1 d.2.2.2.2.2.2.2.2.1 d.2.2.2.2.2.2.2.2.2.1 d.2.2.2.2.2.2.2.2.2.2.1 d.2.2.2.2.2.2.2.2.2.2.2.1 d.2.2.2.2.2.2.2.2.2.2.2.2.1 d.2.2.2.2.2.2.2.2.2.2.2.2.2.1 d.2.2.2.2.2.2.2.2.2.2.2.2.2.2.1 d.2.2.2.2.2.2.2.2.2.2.2.2.2.2.2.1 d.2.2.2.2.2.2.2.2.2.2.2.2.2.2.2.2.1 d.2.2.2.2.2.2.2.2.2.2.2.2.2.2.2.2.2.1 d.2.2.2.2.2.2.2.2.2.2.2.2.2.2.2.2.2.2.1 d.2.2.2.2.2.2.2.2.2.2.2.2.2.2.2.2.2.2.2.1 d.2.2.2.2.2.2.2.2.2.2.2.2.2.2.2.2.2.2.2.2.1 d.2.2.2.2.2.2.2.2.2.2.2.2.2.2.2.2.2.2.2.2.2.1 d.2.2.2.2.2.2.2.2.2.2.2.2.2.2.2.2.2.2.2.2.2.2.1 d.2.2.2.2.2.2.2.2.2.2.2.2.2.2.2.2.2.2.2.2.2.2.2.1=some (jd d,())∧(jd d=true↔xX d):=by
 obtain ⟨b,k1,k2⟩:=Jz d.1 d.2.1 d.2.2.1 d.2.2.2.1 d.2.2.2.2.1 d.2.2.2.2.2.1 d.2.2.2.2.2.2.1 d.2.2.2.2.2.2.2.1 d.2.2.2.2.2.2.2.2.1 d.2.2.2.2.2.2.2.2.2.1 d.2.2.2.2.2.2.2.2.2.2.1 d.2.2.2.2.2.2.2.2.2.2.2.1 d.2.2.2.2.2.2.2.2.2.2.2.2.1 d.2.2.2.2.2.2.2.2.2.2.2.2.2.1 d.2.2.2.2.2.2.2.2.2.2.2.2.2.2.1 d.2.2.2.2.2.2.2.2.2.2.2.2.2.2.2.1 d.2.2.2.2.2.2.2.2.2.2.2.2.2.2.2.2.1 d.2.2.2.2.2.2.2.2.2.2.2.2.2.2.2.2.2.1 d.2.2.2.2.2.2.2.2.2.2.2.2.2.2.2.2.2.2.1 d.2.2.2.2.2.2.2.2.2.2.2.2.2.2.2.2.2.2.2.1 d.2.2.2.2.2.2.2.2.2.2.2.2.2.2.2.2.2.2.2.2.1 d.2.2.2.2.2.2.2.2.2.2.2.2.2.2.2.2.2.2.2.2.2.1 d.2.2.2.2.2.2.2.2.2.2.2.2.2.2.2.2.2.2.2.2.2.2.1 d.2.2.2.2.2.2.2.2.2.2.2.2.2.2.2.2.2.2.2.2.2.2.2.1 h;have hb:jd d=b:=by unfold jd;rw [k1]
 rw [hb];refine ⟨k1,k2,?_⟩;have h0:=h;unfold ow at h0;have n1:gy d.2.2.1 d.2.2.2.1 d.2.2.2.2.1 d.2.2.2.2.2.1 d.2.2.2.2.2.2.1 d.2.2.2.2.2.2.2.1 d.2.2.2.2.2.2.2.2.1 d.2.2.2.2.2.2.2.2.2.1 d.2.2.2.2.2.2.2.2.2.2.1 d.2.2.2.2.2.2.2.2.2.2.2.1 d.2.2.2.2.2.2.2.2.2.2.2.2.1 d.2.2.2.2.2.2.2.2.2.2.2.2.2.1 d.2.2.2.2.2.2.2.2.2.2.2.2.2.2.1 d.2.2.2.2.2.2.2.2.2.2.2.2.2.2.2.1 d.2.2.2.2.2.2.2.2.2.2.2.2.2.2.2.2.1 d.2.2.2.2.2.2.2.2.2.2.2.2.2.2.2.2.2.1=some (Bo (aI d),()):=(Oo (aI d)).1;have n3:=(Oo (aI d)).2.2;have hw:mq (aI d)≤1048576:=by
  show (List.length d.2.2.2.2.1+wl jV d.2.2.2.2.1)+(List.length d.2.2.2.2.2.1+wl dJ d.2.2.2.2.2.1)+(List.length d.2.2.2.2.2.2.1+wl jV d.2.2.2.2.2.2.1)+(List.length d.2.2.2.2.2.2.2.1+wl Jx d.2.2.2.2.2.2.2.1)+(List.length d.2.2.2.2.2.2.2.2.2.2.2.2.2.2.2.2.2.1+wl jV d.2.2.2.2.2.2.2.2.2.2.2.2.2.2.2.2.2.1)≤1048576;omega
 have m1:fq d.2.2.1 d.2.2.2.1 d.2.2.2.2.1 d.2.2.2.2.2.1 d.2.2.2.2.2.2.1 d.2.2.2.2.2.2.2.1 d.2.2.2.2.2.2.2.2.1 d.2.2.2.2.2.2.2.2.2.1 d.2.2.2.2.2.2.2.2.2.2.1 d.2.2.2.2.2.2.2.2.2.2.2.1 d.2.2.2.2.2.2.2.2.2.2.2.2.1 d.2.2.2.2.2.2.2.2.2.2.2.2.2.1 d.2.2.2.2.2.2.2.2.2.2.2.2.2.2.1 d.2.2.2.2.2.2.2.2.2.2.2.2.2.2.2.1 d.2.2.2.2.2.2.2.2.2.2.2.2.2.2.2.2.1 d.2.2.2.2.2.2.2.2.2.2.2.2.2.2.2.2.2.1=some (uH (aI d),()):=(tL (aI d) hw).1;have m3:=(tL (aI d) hw).2.2;obtain ⟨r1,_⟩:=uX d.2.2.2.2.2.2.2.2.2.2.2.2.2.2.2.2.2.2.2.2.1 d.2.2.2.2.2.2.2.2.2.2.2.2.2.2.2.2.2.2.2.2.2.1;obtain ⟨q1,_,q3⟩:=ou d.2.2.2.2.2.2.2.2.2.2.2.2.2.2.2.2.2.2.2.2.1 d.2.2.2.2.2.2.2.2.2.2.2.2.2.2.2.2.2.2.2.2.2.1 (by omega);have c1:=zw d.2.2.2.2.2.2.2.2.2.2.2.2.2.2.2.2.2.2.2.2.2.1 d.1 (by omega);obtain ⟨e,g1,g2⟩:=XC d h;have hnr:(decide (d.2.2.2.2.2.2.2.2.2.2.2.2.2.2.2.2.2.2.2.2.1=0)&&decide (((List.length d.2.2.2.2.2.2.2.2.2.2.2.2.2.2.2.2.2.2.2.2.2.1:Nat):Int)=0))=true↔(d.2.2.2.2.2.2.2.2.2.2.2.2.2.2.2.2.2.2.2.2.1=0∧d.2.2.2.2.2.2.2.2.2.2.2.2.2.2.2.2.2.2.2.2.2.1=[]):=by rw [qT,ZE]
 unfold fA at k1;simp only [mG,n1,m1,r1,q1,c1,g1,Option.bind_some] at k1
 cases e1:(decide (1≤d.1)&&decide (d.1≤5))
 ·rw [e1] at k1;have:=some_inj k1;subst this;exact ⟨fun h=>(by cases h),fun h=>by rw [qT.2 h.id] at e1;cases e1⟩
 have a1:=lN e1
 cases e2:(decide (0≤d.2.2.2.2.2.2.2.2.2.2.2.2.2.2.2.2.2.2.1)&&decide (d.2.2.2.2.2.2.2.2.2.2.2.2.2.2.2.2.2.2.1≤9))
 ·rw [e1,e2] at k1;have:=some_inj k1;subst this;exact ⟨fun h=>(by cases h),fun h=>by rw [qT.2 h.xY] at e2;cases e2⟩
 have a2:=lN e2;rw [e1,e2] at k1;simp only [Bool.not_true,cond_false] at k1
 cases e3:d.2.1
 ·-- it atF
  rw [e3] at k1;have tail:(uH (aI d)=true→d.2.2.1=d.1→False)∨True:=.inr trivial;have rest:(Ld (aI d)∨(rb (aI d)∧d.2.2.1=d.1))→(0≤d.2.2.2.1∧d.2.2.2.1≤9)→(bif !decide (d.2.2.2.2.2.2.2.2.2.2.2.2.2.2.2.2.2.2.2.1=d.2.2.2.1) then some (false,()) else bif decide (d.2.2.2.2.2.2.2.2.2.2.2.2.2.2.2.2.2.2.1<d.2.2.2.2.2.2.2.2.2.2.2.2.2.2.2.2.2.2.2.1) then some (false,()) else
    bif (decide (d.2.2.2.2.2.2.2.2.2.2.2.2.2.2.2.2.2.2.2.2.1=0)&&decide (((List.length d.2.2.2.2.2.2.2.2.2.2.2.2.2.2.2.2.2.2.2.2.2.1:Nat):Int)=0)) then some (decide (((List.length d.2.2.2.2.2.2.2.2.2.2.2.2.2.2.2.2.2.2.2.2.2.2.1:Nat):Int)=0),()) else
    bif !qS d.2.2.2.2.2.2.2.2.2.2.2.2.2.2.2.2.2.2.2.2.1 d.2.2.2.2.2.2.2.2.2.2.2.2.2.2.2.2.2.2.2.2.2.1 then some (false,()) else bif !decide ((d.1,())∈d.2.2.2.2.2.2.2.2.2.2.2.2.2.2.2.2.2.2.2.2.2.1) then some (false,()) else
    bif !(decide (IntKind.i64.wrap (d.2.2.2.2.2.2.2.2.2.2.2.2.2.2.2.2.2.2.2.1+(1:Int))≤d.2.2.2.2.2.2.2.2.2.2.2.2.2.2.2.2.2.2.2.2.1)&&decide (d.2.2.2.2.2.2.2.2.2.2.2.2.2.2.2.2.2.2.2.2.1≤d.2.2.2.2.2.2.2.2.2.2.2.2.2.2.2.2.2.2.1)) then some (false,()) else cg (some e) (fun _=>some (true,())) (fun y=>some (y.1,())))=some (b,())→(b=true↔xX d):=by
   intro hm hr k
   by_cases o1:d.2.2.2.2.2.2.2.2.2.2.2.2.2.2.2.2.2.2.2.1=d.2.2.2.1
   case neg=>
    rw [aq o1] at k;have:=some_inj k;subst this;exact ⟨fun h=>(by cases h),fun h=>absurd h.old.1 o1⟩
   by_cases o2:d.2.2.2.2.2.2.2.2.2.2.2.2.2.2.2.2.2.2.1<d.2.2.2.2.2.2.2.2.2.2.2.2.2.2.2.2.2.2.2.1
   ·rw [ak o1,ak o2] at k;have:=some_inj k;subst this;exact ⟨fun h=>(by cases h),fun h=>by have:=h.old.2;omega⟩
   rw [ak o1,aq o2,cD (by omega) (by omega)] at k;have mk:((d.2.2.2.2.2.2.2.2.2.2.2.2.2.2.2.2.2.2.2.2.1=0∧d.2.2.2.2.2.2.2.2.2.2.2.2.2.2.2.2.2.2.2.2.2.1=[]∧d.2.2.2.2.2.2.2.2.2.2.2.2.2.2.2.2.2.2.2.2.2.2.1=[])∨(js d.2.2.2.2.2.2.2.2.2.2.2.2.2.2.2.2.2.2.2.2.1 d.2.2.2.2.2.2.2.2.2.2.2.2.2.2.2.2.2.2.2.2.2.1∧(d.1,())∈d.2.2.2.2.2.2.2.2.2.2.2.2.2.2.2.2.2.2.2.2.2.1∧(d.2.2.2.2.2.2.2.2.2.2.2.2.2.2.2.2.2.2.2.1+1≤d.2.2.2.2.2.2.2.2.2.2.2.2.2.2.2.2.2.2.2.2.1∧d.2.2.2.2.2.2.2.2.2.2.2.2.2.2.2.2.2.2.2.2.1≤d.2.2.2.2.2.2.2.2.2.2.2.2.2.2.2.2.2.2.1)∧∀b∈d.2.2.2.2.2.2.2.2.2.2.2.2.2.2.2.2.2.2.2.2.2.2.1,B6 b∧b.2.1=d.2.2.2.2.2.2.2.2.2.2.2.2.2.2.2.2.2.2.2.2.1))→xX d:=fun hj=>
    ⟨a1,a2,fun hd=>(by rw [e3] at hd;cases hd),hm,⟨o1,by omega⟩,hj⟩
   cases e4:(decide (d.2.2.2.2.2.2.2.2.2.2.2.2.2.2.2.2.2.2.2.2.1=0)&&decide (((List.length d.2.2.2.2.2.2.2.2.2.2.2.2.2.2.2.2.2.2.2.2.2.1:Nat):Int)=0))
   ·have Yj:¬(d.2.2.2.2.2.2.2.2.2.2.2.2.2.2.2.2.2.2.2.2.1=0∧d.2.2.2.2.2.2.2.2.2.2.2.2.2.2.2.2.2.2.2.2.2.1=[]∧d.2.2.2.2.2.2.2.2.2.2.2.2.2.2.2.2.2.2.2.2.2.2.1=[]):=fun hz=>by rw [hnr.2 ⟨hz.1,hz.2.1⟩] at e4;cases e4
    rw [e4] at k
    cases e5:qS d.2.2.2.2.2.2.2.2.2.2.2.2.2.2.2.2.2.2.2.2.1 d.2.2.2.2.2.2.2.2.2.2.2.2.2.2.2.2.2.2.2.2.2.1
    ·rw [e5] at k;have:=some_inj k;subst this;exact ⟨fun h=>(by cases h),fun h=>by
      rcases h.nT with q | q
      ·exact absurd q Yj
      ·rw [q3.2 q.1] at e5;cases e5⟩
    by_cases e6:(d.1,())∈d.2.2.2.2.2.2.2.2.2.2.2.2.2.2.2.2.2.2.2.2.2.1
    case neg=>
     rw [e5,aq e6] at k;have:=some_inj k;subst this;exact ⟨fun h=>(by cases h),fun h=>by
      rcases h.nT with q | q
      ·exact absurd q Yj
      ·exact absurd q.2.1 e6⟩
    cases e7:(decide (d.2.2.2.2.2.2.2.2.2.2.2.2.2.2.2.2.2.2.2.1+1≤d.2.2.2.2.2.2.2.2.2.2.2.2.2.2.2.2.2.2.2.2.1)&&decide (d.2.2.2.2.2.2.2.2.2.2.2.2.2.2.2.2.2.2.2.2.1≤d.2.2.2.2.2.2.2.2.2.2.2.2.2.2.2.2.2.2.1))
    ·rw [e5,ak e6,e7] at k;have:=some_inj k;subst this;exact ⟨fun h=>(by cases h),fun h=>by
      rcases h.nT with q | q
      ·exact absurd q Yj
      ·rw [qT.2 q.2.2.1] at e7;cases e7⟩
    rw [e5,ak e6,e7] at k;rcases g2 with ⟨rfl,g⟩ | ⟨rfl,g⟩
    ·have:=some_inj k;subst this;exact ⟨fun _=>mk (.inr ⟨q3.1 e5,e6,lN e7,g⟩),fun _=>rfl⟩
    ·have:=some_inj k;subst this;exact ⟨fun h=>(by cases h),fun h=>by
      rcases h.nT with q | q
      ·exact absurd q Yj
      ·exact absurd q.2.2.2 g⟩
   ·have hn:=hnr.1 e4;rw [e4] at k;have:=some_inj k;subst this;rw [decide_eq_true_eq,ZE];refine ⟨fun h=>mk (.inl ⟨hn.1,hn.2,h⟩),fun h => ?_⟩;rcases h.nT with q | q
    ·exact q.2.2
    ·have:=q.1.1.1;omega
  cases e4:Bo (aI d)
  ·rw [e4] at k1;simp only [Bool.not_false,cond_true] at k1;have nn:¬Ld (aI d):=fun hz=>by rw [n3.2 hz] at e4;cases e4
   cases e5:uH (aI d)
   ·rw [e5] at k1;have:=some_inj k1;subst this;exact ⟨fun h=>(by cases h),fun h=>by
     rcases h.tM with q | q
     ·exact absurd q nn
     ·rw [m3.2 q.1] at e5;cases e5⟩
   by_cases e6:d.2.2.1=d.1
   case neg=>
    rw [e5,aq e6] at k1;have:=some_inj k1;subst this;exact ⟨fun h=>(by cases h),fun h=>by
     rcases h.tM with q | q
     ·exact absurd q nn
     ·exact absurd q.2 e6⟩
   rw [e5,ak e6] at k1;have hq:=m3.1 e5;have h3:1≤d.2.2.2.1∧d.2.2.2.1≤9:=hq.ring.1;exact rest (.inr ⟨hq,e6⟩) ⟨by omega,h3.2⟩ k1
  ·rw [e4] at k1;have hz:=n3.1 e4;have h3:d.2.2.2.1=0:=hz.2.1;exact rest (.inl hz) ⟨by omega,by omega⟩ k1
 ·-- it is dead
  rw [e3] at k1;simp only [cond_true] at k1
  cases e4:Bo (aI d)
  ·rw [e4] at k1;have:=some_inj k1;subst this;exact ⟨fun h=>(by cases h),fun h=>by rw [n3.2 (h.dead e3).1] at e4;cases e4⟩
  have hz:=n3.1 e4
  by_cases e5:d.2.2.2.2.2.2.2.2.2.2.2.2.2.2.2.2.2.2.2.1=0
  case neg=>
   rw [e4,aq e5] at k1;have:=some_inj k1;subst this;exact ⟨fun h=>(by cases h),fun h=>absurd (h.dead e3).2.1 e5⟩
  cases e6:(decide (d.2.2.2.2.2.2.2.2.2.2.2.2.2.2.2.2.2.2.2.2.1=0)&&decide (((List.length d.2.2.2.2.2.2.2.2.2.2.2.2.2.2.2.2.2.2.2.2.2.1:Nat):Int)=0))
  ·rw [e4,ak e5,e6] at k1;have:=some_inj k1;subst this;exact ⟨fun h=>(by cases h),fun h=>by rw [hnr.2 ⟨(h.dead e3).2.2.1,(h.dead e3).2.2.2.1⟩] at e6;cases e6⟩
  have hn:=hnr.1 e6;rw [e4,ak e5,e6] at k1;have:=some_inj k1;subst this;rw [decide_eq_true_eq,ZE];have h3:d.2.2.2.1=0:=hz.2.1;exact ⟨fun h=>⟨a1,a2,fun _=>⟨hz,e5,hn.1,hn.2,h⟩,.inl hz,⟨by omega,by omega⟩,.inl ⟨hn.1,hn.2,h⟩⟩,fun h=>(h.dead e3).2.2.2.2⟩
end Go.TM
set_option linter.unusedSimpArgs false
set_option linter.unusedVariables false
namespace Go.TM
open Go
def nt:aV→dY→aV
 | [],m=>[m]
 |r::xs,m=>if r.1<m.1 then r::nt xs m else if r.1=m.1 then r::xs else m::r::xs
def Ug (xs:aV):Prop:=xs.Pairwise fun a b=>a.1<b.1
def oT (xs:aV) (m:dY):Nat:=(xs.takeWhile fun r=>decide (r.1<m.1)).length
theorem ZF (xs:aV) (m:dY):oT xs m≤xs.length:=(List.takeWhile_sublist _).length_le
theorem Fs (r:dY) (xs:aV) (m:dY):oT (r::xs) m=if r.1<m.1 then oT xs m+1 else 0:=by
 unfold oT;rw [List.takeWhile_cons]
 by_cases h:r.1<m.1
 ·simp [h]
 ·simp [h]
theorem Oq (m:dY):(xs:aV)→nt xs m=if h:oT xs m<xs.length then (if xs[oT xs m].1=m.1 then xs else xs.take (oT xs m)++([m]++xs.drop (oT xs m))) else xs.take (oT xs m)++([m]++xs.drop (oT xs m))
 | []=>rfl
 |r::xs=>by
  have ih:=Oq m xs;unfold nt
  by_cases h:r.1<m.1
  ·rw [if_pos h,ih];have hp:oT (r::xs) m=oT xs m+1:=by rw [Fs,if_pos h]
   by_cases h2:oT xs m<xs.length
   ·have h3:oT (r::xs) m<(r::xs).length:=by rw [hp,List.length_cons];omega
    rw [dif_pos h2,dif_pos h3];have e:(r::xs)[oT (r::xs) m]=xs[oT xs m]:=by simp [hp]
    rw [e]
    by_cases h4:xs[oT xs m].1=m.1
    ·rw [if_pos h4,if_pos h4]
    ·rw [if_neg h4,if_neg h4,hp];rfl
   ·have h3:¬oT (r::xs) m<(r::xs).length:=by rw [hp,List.length_cons];omega
    rw [dif_neg h2,dif_neg h3,hp];rfl
  ·rw [if_neg h];have hp:oT (r::xs) m=0:=by rw [Fs,if_neg h]
   have h3:oT (r::xs) m<(r::xs).length:=by rw [hp,List.length_cons];omega
   rw [dif_pos h3];have e:(r::xs)[oT (r::xs) m]=r:=by simp [hp]
   rw [e,hp];rfl
theorem XD {xs:aV} (h:fh xs xs.length):Ug xs:=by
 have key:∀(d i:Nat) (hi:i+d+1<xs.length),xs[i].1<xs[i+d+1].1:=by
  intro d
  induction d with
  |zero=>intro i hi;exact (h (i+1) hi hi).2 (by omega)
  |succ d ih=>
   intro i hi;have h1:=ih i (by omega);have h2:=(h (i+(d+1)+1) hi hi).2 (by omega);have e:i+(d+1)+1-1=i+d+1:=by omega
   simp only [e] at h2;omega
 unfold Ug;rw [List.pairwise_iff_getElem];intro i j hi hj Yi;have:=key (j-i-1) i (by omega);simpa [show i+(j-i-1)+1=j by omega] using this
theorem XE {xs:aV} (h:Ug xs) (hi:∀r∈xs,pT r):fh xs xs.length:=by
 intro k hk _;refine ⟨hi _ (List.getElem_mem hk),fun h0 => ?_⟩;unfold Ug at h;rw [List.pairwise_iff_getElem] at h;exact h (k-1) k (by omega) hk (by omega)
theorem rY {xs:aV} (h:fh xs xs.length):∀r∈xs,pT r:=by
 intro r hr;obtain ⟨k,hk,rfl⟩:=List.mem_iff_getElem.1 hr;exact (h k hk hk).1
theorem IH {r m:dY}:{xs:aV}→r∈nt xs m→r=m∨r∈xs
 | [],h=>by
  unfold nt at h;exact .inl (List.mem_singleton.1 h)
 |x::xs,h=>by
  unfold nt at h
  split at h
  ·rcases List.mem_cons.1 h with rfl | h
   ·exact .inr List.mem_cons_self
   ·exact (IH h).imp id (List.mem_cons_of_mem _)
  ·split at h
   ·exact .inr h
   ·rcases List.mem_cons.1 h with rfl | h
    ·exact .inl rfl
    ·exact .inr h
theorem Ot {m:dY}:{xs:aV}→Ug xs→Ug (nt xs m)
 | [],_=>by unfold nt Ug;simp
 |x::xs,h=>by
  unfold Ug at h;rw [List.pairwise_cons] at h;unfold nt
  split
  ·rename_i dM;unfold Ug;rw [List.pairwise_cons];refine ⟨fun y hy => ?_,Ot h.2⟩;rcases IH hy with rfl | hy
   ·exact dM
   ·exact h.1 y hy
  ·split
   ·unfold Ug;rw [List.pairwise_cons];exact h
   ·unfold Ug;rw [List.pairwise_cons,List.pairwise_cons];refine ⟨fun y hy => ?_,h⟩;rcases List.mem_cons.1 hy with rfl | hy
    ·omega
    ·have:=h.1 y hy;omega
theorem zB {xs:aV} {m:dY} (h:fh xs xs.length) (hm:pT m):fh (nt xs m) (nt xs m).length:=
 XE (Ot (XD h)) fun r hr=>(IH hr).elim (fun e=>e▸hm) (rY h r)
def pU (xs:aV) (m:dY):aV:=xs.filter fun r=>decide (r.1<m.1)
def wi (xs:aV) (m:dY):aV:=xs.filter fun r=>decide (m.1<r.1)
def Ef (xs:aV) (s:Int):Bool:=xs.any fun r=>decide (r.1=s)
theorem Gi (m:dY):(xs:aV)→Ug xs→nt xs m=bif Ef xs m.1 then xs else pU xs m++[m]++wi xs m
 | [],_=>rfl
 |r::xs,h=>by
  unfold Ug at h;rw [List.pairwise_cons] at h;have ih:=Gi m xs h.2;unfold nt
  by_cases h1:r.1<m.1
  ·rw [if_pos h1,ih];have e1:Ef (r::xs) m.1=Ef xs m.1:=by unfold Ef;rw [List.any_cons,aq (show ¬r.1=m.1 by omega)];rfl
   have e2:pU (r::xs) m=r::pU xs m:=by unfold pU;rw [List.filter_cons,if_pos (ak h1)]
   have e3:wi (r::xs) m=wi xs m:=by unfold wi;rw [List.filter_cons,if_neg (by rw [decide_eq_true_eq];omega)]
   rw [e1,e2,e3]
   cases Ef xs m.1<;>rfl
  ·rw [if_neg h1]
   by_cases h2:r.1=m.1
   ·have e1:Ef (r::xs) m.1=true:=by unfold Ef;rw [List.any_cons,ak h2];rfl
    rw [if_pos h2,e1];rfl
   ·rw [if_neg h2];have lu:∀y∈r::xs,m.1<y.1:=by
     intro y hy;rcases List.mem_cons.1 hy with rfl | hy
     ·omega
     ·have:=h.1 y hy;omega
    have e1:Ef (r::xs) m.1=false:=by
     unfold Ef;rw [List.any_eq_false];intro y hy;have:=lu y hy;rw [decide_eq_true_eq];omega
    have e2:pU (r::xs) m=[]:=by
     unfold pU;rw [List.filter_eq_nil_iff];intro y hy;have:=lu y hy;rw [decide_eq_true_eq];omega
    have e3:wi (r::xs) m=r::xs:=by
     unfold wi;rw [List.filter_eq_self];intro y hy;exact ak (lu y hy)
    rw [e1,e2,e3];rfl
theorem zC (xs:aV) (m:dY) (h:xs.length≤1048576) (hi:m9 xs=true) (hm:zX m=true):jk xs m.1 m.2.1 m.2.2.1 m.2.2.2.1=some (nt xs m,()):=by
 obtain ⟨k1,_,k3⟩:=pj xs h;obtain ⟨q1,_,_⟩:=zz m;have hs:=XD (k3.1 hi);have hlen:∀k,(pU (xs.take k) m).length≤k:=fun k=>Nat.le_trans (List.length_filter_le _ _) (by rw [List.length_take];omega)
 have NN:∀k,(wi (xs.take k) m).length≤k:=fun k=>Nat.le_trans (List.length_filter_le _ _) (by rw [List.length_take];omega)
 have l1:=sC (round:=kh) (n:=xs.length) (fun k=>(xs,m.1,m.2.1,m.2.2.1,m.2.2.2.1,xs,pU (xs.take k) m,((k:Nat):Int),())) (fun k=>some (bif Ef (xs.drop k) m.1 then .inr (xs,()) else .inl (xs,m.1,m.2.1,m.2.2.1,m.2.2.2.1,pU xs m,())))
  ⟨.inl (xs,m.1,m.2.1,m.2.2.1,m.2.2.2.1,pU xs m,()),by simp only [kh,bC,sX,aA,aM,cond_false,List.take_length],by rw [List.drop_length];rfl⟩ (fun k hk=>by
   have e:Ef (xs.drop k) m.1=(decide (xs[k].1=m.1)||Ef (xs.drop (k+1)) m.1):=by unfold Ef;rw [List.drop_eq_getElem_cons hk,List.any_cons]
   have e2:pU (xs.take (k+1)) m=pU (xs.take k) m++(if decide (xs[k].1<m.1)=true then [xs[k]] else []):=by
    unfold pU;rw [List.take_succ_eq_append_getElem hk,List.filter_append,List.filter_cons]
    split<;>rfl
   have hb:Nat.ble (((pU (xs.take k) m).length+1)*40) lim=true:=aT (by have:=hlen k;unfold lim;omega);simp only [kh,bC,sX,aA,aE hk,ax,cond_true,aF,List.getElem?_eq_getElem hk,Option.bind_some,aN (show k<4611686018427387904 by omega),hb,e,e2]
   by_cases h1:xs[k].1=m.1
   ·rw [ak h1];exact .inl ⟨_,rfl,rfl⟩
   ·rw [aq h1];refine .inr ⟨?_,rfl⟩
    by_cases h2:xs[k].1<m.1
    ·rw [ak h2];rfl
    ·rw [aq h2,if_neg (by decide),List.append_nil];rfl) 0 (Nat.zero_le _)
 have l1:aJ kh (xs,m.1,m.2.1,m.2.2.1,m.2.2.2.1,xs,[],(0:Int),())=_:=l1;rw [List.drop_zero] at l1;have l2:=ck (round:=iU) (e:=.inl (pU xs m++[m]++wi xs m,())) xs.length (fun k=>(xs,m.1,m.2.1,m.2.2.1,m.2.2.2.1,pU xs m++[m]++wi (xs.take k) m,((k:Nat):Int),())) (by
  simp only [iU,aP,sY,aA,aM,cond_false,List.take_length]) (fun k hk=>by
   have e2:wi (xs.take (k+1)) m=wi (xs.take k) m++(if decide (m.1<xs[k].1)=true then [xs[k]] else []):=by
    unfold wi;rw [List.take_succ_eq_append_getElem hk,List.filter_append,List.filter_cons]
    split<;>rfl
   have hb:Nat.ble (((pU xs m++[m]++wi (xs.take k) m).length+1)*40) lim=true:=aT (by
    have h1:=hlen xs.length;rw [List.take_length] at h1;have h2:=NN k;simp only [List.length_append,List.length_cons,List.length_nil];unfold lim;omega)
   simp only [iU,aP,sY,aA,aE hk,ax,cond_true,aF,List.getElem?_eq_getElem hk,Option.bind_some,aN (show k<4611686018427387904 by omega),hb,e2]
   by_cases h2:m.1<xs[k].1
   ·rw [ak h2,if_pos rfl,←List.append_assoc];rfl
   ·rw [aq h2,if_neg (by decide),List.append_nil];rfl)
 have l2:aJ iU (xs,m.1,m.2.1,m.2.2.1,m.2.2.2.1,pU xs m++[m]++wi (xs.take 0) m,(0:Int),())=_:=l2;rw [show wi (xs.take 0) m=[] from rfl,List.append_nil] at l2;have W4:Nat.ble ((0+xs.length)*40) lim=true:=aT (by unfold lim;omega);have MP:Nat.ble (((pU xs m).length+1)*40) lim=true:=aT (by
  have h1:=hlen xs.length;rw [List.take_length] at h1;unfold lim;omega)
 rw [Gi m xs hs];unfold jk;delta aA;simp only [k1,q1,hi,hm,W4,cond_true,Bool.not_true,cond_false,Option.bind_some,List.nil_append,l1]
 cases Ef xs m.1
 ·have l3:aJ iU (xs,m.1,m.2.1,m.2.2.1,m.2.2.2.1,pU xs m++[(m.1,m.2.1,m.2.2.1,m.2.2.2.1,())],(0:Int),())=_:=l2;simp only [cond_false,cg,Option.bind_some,MP,cond_true,l3]
 ·rfl
theorem zD (xs:aV) (m:dY) (h:xs.length≤1048576):oh xs m.1 m.2.1 m.2.2.1 m.2.2.2.1=some (nt xs m,()):=by
 have l1:=sC (round:=ku) (n:=xs.length) (fun k=>(xs,m.1,m.2.1,m.2.2.1,m.2.2.2.1,((k:Nat):Int),())) (fun k=>some (.inl (xs,m.1,m.2.1,m.2.2.1,m.2.2.2.1,((k+oT (xs.drop k) m:Nat):Int),())))
  ⟨.inl (xs,m.1,m.2.1,m.2.2.1,m.2.2.2.1,((xs.length:Nat):Int),()),by simp only [ku,aP,tG,aM,cond_false],by rw [List.drop_length];rfl⟩ (fun k hk=>by
   have e:oT (xs.drop k) m=if xs[k].1<m.1 then oT (xs.drop (k+1)) m+1 else 0:=by rw [List.drop_eq_getElem_cons hk,Fs]
   simp only [ku,aP,tG,aE hk,ax,cond_true,aF,fl hk,List.getElem?_eq_getElem hk,Option.bind_some,aN (show k<4611686018427387904 by omega),e]
   by_cases h1:xs[k].1<m.1
   ·rw [ak h1,if_pos h1];exact .inr ⟨rfl,by rw [show k+(oT (xs.drop (k+1)) m+1)=k+1+oT (xs.drop (k+1)) m by omega]⟩
   ·rw [aq h1,if_neg h1];exact .inl ⟨_,rfl,rfl⟩) 0 (Nat.zero_le _)
 have l1:aJ ku (xs,m.1,m.2.1,m.2.2.1,m.2.2.2.1,(0:Int),())=_:=l1;rw [List.drop_zero,Nat.zero_add] at l1;have hp:=ZF xs m;have arO:Ob xs ((oT xs m:Nat):Int) [(m.1,m.2.1,m.2.2.1,m.2.2.2.1,())]=some (xs.take (oT xs m)++([m]++xs.drop (oT xs m)),()):=by
  unfold Ob;rw [ax,ak (show ((oT xs m:Nat):Int)≤((xs.length:Nat):Int) by omega),aT (show (xs.length+1)*40≤lim by unfold lim;omega)];rfl
 rw [Oq];unfold oh;delta aA;simp only [l1,cg,arO,Option.bind_some]
 by_cases h1:oT xs m<xs.length
 ·simp only [dif_pos h1,aE h1,ax,aF,fl h1,cond_true,List.getElem?_eq_getElem h1,Option.bind_some]
  by_cases h2:xs[oT xs m].1=m.1
  ·rw [ak h2,if_pos h2];rfl
  ·rw [aq h2,if_neg h2];rfl
 ·rw [dif_neg h1,aq (show ¬((oT xs m:Nat):Int)<((xs.length:Nat):Int) by omega)];rfl
noncomputable def II (xs:aV) (m:dY):aV:=bif m9 xs&&zX m then nt xs m else xs
theorem Mr (xs:aV) (m:dY) (h:xs.length≤1048576):jk xs m.1 m.2.1 m.2.2.1 m.2.2.2.1=some (II xs m,())∧uG xs m.1 m.2.1 m.2.2.1 m.2.2.2.1=some (II xs m,()):=by
 obtain ⟨k1,k2,_⟩:=pj xs h;obtain ⟨q1,q2,_⟩:=zz m;have W4:Nat.ble ((0+xs.length)*40) lim=true:=aT (by unfold lim;omega);unfold II
 constructor
 ·cases hi:m9 xs
  ·unfold jk;delta aA;simp only [k1,hi,W4,cond_true,Option.bind_some];rfl
  ·cases hm:zX m
   ·unfold jk;delta aA;simp only [k1,q1,hi,hm,W4,cond_true,Option.bind_some];rfl
   ·exact zC xs m h hi hm
 ·unfold uG;simp only [k2,q2,wT xs h,Option.bind_some,zD xs m h]
  cases m9 xs<;>cases zX m<;>rfl
def Le (m:jc) (xs:aV):jc:=(m.1,m.2.1,m.2.2.1,xs,m.2.2.2.2)
noncomputable def qU (m:jc) (x:dY):jc:=bif uH m then Le m (II m.2.2.2.1 x) else m
theorem Qv (m:jc) (x:dY) (h:mq m≤1048576):vM m.1 m.2.1 m.2.2.1 m.2.2.2.1 m.2.2.2.2.1 m.2.2.2.2.2.1 m.2.2.2.2.2.2.1 m.2.2.2.2.2.2.2.1 m.2.2.2.2.2.2.2.2.1 m.2.2.2.2.2.2.2.2.2.1 m.2.2.2.2.2.2.2.2.2.2.1 m.2.2.2.2.2.2.2.2.2.2.2.1 m.2.2.2.2.2.2.2.2.2.2.2.2.1 m.2.2.2.2.2.2.2.2.2.2.2.2.2.1 m.2.2.2.2.2.2.2.2.2.2.2.2.2.2.1 m.2.2.2.2.2.2.2.2.2.2.2.2.2.2.2.1 x.1 x.2.1 x.2.2.1 x.2.2.2.1=some (qU m x)∧v7 m.1 m.2.1 m.2.2.1 m.2.2.2.1 m.2.2.2.2.1 m.2.2.2.2.2.1 m.2.2.2.2.2.2.1 m.2.2.2.2.2.2.2.1 m.2.2.2.2.2.2.2.2.1 m.2.2.2.2.2.2.2.2.2.1 m.2.2.2.2.2.2.2.2.2.2.1 m.2.2.2.2.2.2.2.2.2.2.2.1 m.2.2.2.2.2.2.2.2.2.2.2.2.1 m.2.2.2.2.2.2.2.2.2.2.2.2.2.1 m.2.2.2.2.2.2.2.2.2.2.2.2.2.2.1 m.2.2.2.2.2.2.2.2.2.2.2.2.2.2.2.1 x.1 x.2.1 x.2.2.1 x.2.2.2.1=some (qU m x):=by
 obtain ⟨k1,k2,_⟩:=tL m h;obtain ⟨p1,p2⟩:=nS m.1 m.2.1 m.2.2.1 m.2.2.2.1 m.2.2.2.2.1 m.2.2.2.2.2.1 m.2.2.2.2.2.2.1 m.2.2.2.2.2.2.2.1 m.2.2.2.2.2.2.2.2.1 m.2.2.2.2.2.2.2.2.2.1 m.2.2.2.2.2.2.2.2.2.2.1 m.2.2.2.2.2.2.2.2.2.2.2.1 m.2.2.2.2.2.2.2.2.2.2.2.2.1 m.2.2.2.2.2.2.2.2.2.2.2.2.2.1 m.2.2.2.2.2.2.2.2.2.2.2.2.2.2.1 m.2.2.2.2.2.2.2.2.2.2.2.2.2.2.2.1 h;have hl:m.2.2.2.1.length≤1048576:=by unfold mq at h;omega
 obtain ⟨q1,q2⟩:=Mr m.2.2.2.1 x hl;unfold qU
 constructor
 ·unfold vM;simp only [p1,k1,q1,Option.bind_some]
  cases uH m<;>rfl
 ·unfold v7;simp only [p2,k2,q2,Option.bind_some]
  cases uH m<;>rfl
theorem Uh {xs:aV} {x:dY} (hx:fh xs xs.length):(II xs x).length+wl dJ (II xs x)≤3660:=by
 have h1:=dD xs hx;unfold II
 cases hc:m9 xs&&zX x
 ·show xs.length+wl dJ xs≤3660;omega
 ·have hm:pT x:=(zz x).2.2.1 (by rw [Bool.and_eq_true] at hc;exact hc.2);have:=dD _ (zB hx hm);show (nt xs x).length+wl dJ (nt xs x)≤3660;omega
theorem Qw (m:jc) (x:dY) (h:mq m≤1048576):mq (qU m x)≤1048576:=by
 unfold qU
 cases hb:uH m
 ·exact h
 ·have hq:=(tL m h).2.2.1 hb;have h1:=hq.small;have h2:=Uh (x:=x) hq.items;unfold mq at h1;show (List.length m.2.2.1+wl jV m.2.2.1)+(List.length (II m.2.2.2.1 x)+wl dJ (II m.2.2.2.1 x))+(List.length m.2.2.2.2.1+wl jV m.2.2.2.2.1)+(List.length m.2.2.2.2.2.1+wl Jx m.2.2.2.2.2.1)+(List.length m.2.2.2.2.2.2.2.2.2.2.2.2.2.2.2.1+wl jV m.2.2.2.2.2.2.2.2.2.2.2.2.2.2.2.1)≤1048576;omega
end Go.TM
set_option linter.unusedSimpArgs false
set_option linter.unusedVariables false
namespace Go.TM
open Go
theorem wU {α:Type} (p:α→Bool) (xs:List α) {k:Nat} (hk:k<xs.length):(xs.take (k+1)).filter p=(xs.take k).filter p++(if p xs[k]=true then [xs[k]] else []):=by
 rw [List.take_succ_eq_append_getElem hk,List.filter_append,List.filter_cons]
 split<;>rfl
theorem zE {α:Type} (p:α→Bool) (xs:List α) (k:Nat):((xs.take k).filter p).length≤k:=Nat.le_trans (List.length_filter_le _ _) (by rw [List.length_take];omega)
theorem zF:(l:aV)→{out:aV}→fh out out.length→(∀r∈l,pT r)→fh (l.foldl nt out) (l.foldl nt out).length
 | [],_,h,_=>h
 |x::l,_,h,hl=>zF l (zB h (hl x List.mem_cons_self)) (fun r hr=>hl r (List.mem_cons_of_mem _ hr))
theorem pV:fh [] ([]:aV).length:=fun k hk=>by simp at hk
noncomputable def iO (out:aV) (l:aV×Unit):aV:=bif m9 l.1 then l.1.foldl nt out else out
noncomputable def xq (lists:List (aV×Unit)):aV:=lists.foldl iO []
theorem Qx {out:aV} {l:aV×Unit} (h:fh out out.length) (hl:l.1.length≤1048576):fh (iO out l) (iO out l).length:=by
 unfold iO
 cases hb:m9 l.1
 ·exact h
 ·exact zF l.1 h (rY ((pj l.1 hl).2.2.1 hb))
theorem nU:(lists:List (aV×Unit))→{out:aV}→fh out out.length→(∀l∈lists,l.1.length≤1048576)→fh (lists.foldl iO out) (lists.foldl iO out).length
 | [],_,h,_=>h
 |l::lists,_,h,hl=>nU lists (Qx h (hl l List.mem_cons_self)) (fun x hx=>hl x (List.mem_cons_of_mem _ hx))
theorem xZ {xs:aV} (h:fh xs xs.length):xs.length≤1048576:=Nat.le_trans (dD xs h).1 (by decide)
theorem ZG {xs:aV} (h:fh xs xs.length):m9 xs=true:=(pj xs (xZ h)).2.2.2 h
theorem agp {r:dY} (h:pT r):zX r=true:=(zz r).2.2.2 h
theorem Qy (lists:List (aV×Unit)) (h:lists.length≤1048576) (hl:∀l∈lists,l.1.length≤1048576):yW lists=some (xq lists,()):=by
 have l1:=ck (round:=mK) (e:=.inl (xq lists,())) lists.length (fun k=>(lists,(lists.take k).foldl iO [],((k:Nat):Int),())) (by
  simp only [mK,xh,aM,cond_false,List.take_length];rfl) (fun k hk=>by
  have XF:=nU (lists.take k) (out:=[]) pV (fun l By=>hl l (List.mem_of_mem_take By));have hlk:=hl _ (List.getElem_mem hk);rw [uW _ _ _ hk];generalize (lists.take k).foldl iO []=out at XF ⊢;obtain ⟨i1,_,i3⟩:=pj lists[k].1 hlk;simp only [mK,xh,aE hk,cond_true]
  cases hb:m9 lists[k].1
  ·have l2:aJ iy (lists,out,((k:Nat):Int),(0:Int),())=some (.inl (lists,out,((k:Nat):Int),())):=by
    rw [jJ]
    by_cases h0:(0:Int)<((List.length lists[k].1:Nat):Int)
    ·simp only [iy,aw,pe,aw,ax,cond_true,aF,List.getElem?_eq_getElem hk,Option.bind_some,ak h0,i1,hb,cond_false]
    ·simp only [iy,aw,pe,aw,ax,cond_true,aF,List.getElem?_eq_getElem hk,Option.bind_some,aq h0,cond_false]
   simp only [l2,cg,Option.bind_some,iO,hb,cond_false,aN (show k<4611686018427387904 by omega)]
  ·have lu:=rY (i3.1 hb);have l2:=ck (round:=iy) (e:=.inl (lists,lists[k].1.foldl nt out,((k:Nat):Int),())) lists[k].1.length (fun j=>(lists,(lists[k].1.take j).foldl nt out,((k:Nat):Int),((j:Nat):Int),())) (by
    simp only [iy,aw,pe,aw,ax,cond_true,aF,List.getElem?_eq_getElem hk,Option.bind_some,aM,cond_false,List.take_length]) (fun j hj=>by
    have hi2:=zF (lists[k].1.take j) XF (fun r hr=>lu r (List.mem_of_mem_take hr));have hp:=zC ((lists[k].1.take j).foldl nt out) lists[k].1[j] (xZ hi2) (ZG hi2) (agp (lu _ (List.getElem_mem hj)));simp only [iy,aw,pe,aw,ax,cond_true,aF,List.getElem?_eq_getElem hk,List.getElem?_eq_getElem hj,Option.bind_some,aE hj,i1,hb,hp,aN (show j<4611686018427387904 by omega)];rw [uW _ _ _ hj])
   have l2:aJ iy (lists,out,((k:Nat):Int),(0:Int),())=_:=l2;simp only [l2,cg,Option.bind_some,iO,hb,cond_true,aN (show k<4611686018427387904 by omega)])
 have l1:aJ mK (lists,[],(0:Int),())=_:=l1;unfold yW;rw [l1];rfl
theorem Qz (lists:List (aV×Unit)) (h:lists.length≤1048576) (hl:∀l∈lists,l.1.length≤1048576):zf lists=some (xq lists,()):=by
 have l1:=ck (round:=mO) (e:=.inl (xq lists,())) lists.length (fun k=>((lists.take k).foldl iO [],lists,((lists.length:Nat):Int),((k:Nat):Int),())) (by
  simp only [mO,aw,xl,aM,cond_false,List.take_length];rfl) (fun k hk=>by
  have XF:=nU (lists.take k) (out:=[]) pV (fun l By=>hl l (List.mem_of_mem_take By));have hlk:=hl _ (List.getElem_mem hk);rw [uW _ _ _ hk];generalize (lists.take k).foldl iO []=out at XF ⊢;obtain ⟨_,i2,i3⟩:=pj lists[k].1 hlk;simp only [mO,aw,xl,aE hk,cond_true,ax,aF,List.getElem?_eq_getElem hk,Option.bind_some,i2]
  cases hb:m9 lists[k].1
  ·simp only [iO,hb,Bool.not_false,cond_true,cond_false,aN (show k<4611686018427387904 by omega)]
  ·have lu:=rY (i3.1 hb);have l2:=ck (round:=mN) (e:=.inl (lists[k].1.foldl nt out,lists,((lists.length:Nat):Int),((k:Nat):Int),())) lists[k].1.length (fun j=>((lists[k].1.take j).foldl nt out,lists,((lists.length:Nat):Int),((k:Nat):Int),lists[k].1,((lists[k].1.length:Nat):Int),((j:Nat):Int),())) (by
    simp only [mN,aP,xk,aw,aM,cond_false,List.take_length]) (fun j hj=>by
    have hi2:=zF (lists[k].1.take j) XF (fun r hr=>lu r (List.mem_of_mem_take hr));have hp:=zD ((lists[k].1.take j).foldl nt out) lists[k].1[j] (xZ hi2);simp only [mN,aP,xk,aw,ax,cond_true,aF,List.getElem?_eq_getElem hj,Option.bind_some,aE hj,hp,aN (show j<4611686018427387904 by omega)];rw [uW _ _ _ hj])
   have l2:aJ mN (out,lists,((lists.length:Nat):Int),((k:Nat):Int),lists[k].1,((lists[k].1.length:Nat):Int),(0:Int),())=_:=l2;simp only [l2,cg,Option.bind_some,iO,hb,Bool.not_true,cond_true,cond_false,aN (show k<4611686018427387904 by omega)])
 have l1:aJ mO ([],lists,((lists.length:Nat):Int),(0:Int),())=_:=l1;unfold zf;rw [l1];rfl
noncomputable def xr (xs:aV):aV:=xs.filter fun r=>decide (r.1≤((dH xs:Nat):Int))
theorem QA (xs:aV) (h:xs.length≤1048576):yX xs=some (xr xs,()):=by
 obtain ⟨a1,_,_⟩:=zA xs h;have l1:=ck (round:=mL) (e:=.inl (xr xs,())) xs.length (fun k=>(xs,(xs.take k).filter (fun r=>decide (r.1≤((dH xs:Nat):Int))),((dH xs:Nat):Int),((k:Nat):Int),())) (by
  simp only [mL,aw,xi,aA,aM,cond_false,List.take_length];rfl) (fun k hk=>by
  have hb:=zE (fun r:dY=>decide (r.1≤((dH xs:Nat):Int))) xs k;rw [wU _ _ hk];simp only [mL,aw,xi,aA,aE hk,ax,cond_true,aF,List.getElem?_eq_getElem hk,Option.bind_some,aN (show k<4611686018427387904 by omega),aT (show (((xs.take k).filter (fun r=>decide (r.1≤((dH xs:Nat):Int)))).length+1)*40≤lim by unfold lim;omega)]
  by_cases h1:xs[k].1≤((dH xs:Nat):Int)
  ·rw [ak h1];rfl
  ·rw [aq h1,if_neg (by decide),List.append_nil];rfl)
 have l1:aJ mL (xs,[],((dH xs:Nat):Int),(0:Int),())=_:=l1;unfold yX;simp only [a1,Option.bind_some,l1,cg]
theorem QB (xs:aV) (h:xs.length≤1048576):zg xs=some (xr xs,()):=by
 obtain ⟨_,a1,_⟩:=zA xs h;have l1:=ck (round:=mP) (e:=.inl (xr xs,())) xs.length (fun k=>(((dH xs:Nat):Int),(xs.take k).filter (fun r=>decide (r.1≤((dH xs:Nat):Int))),xs,((xs.length:Nat):Int),((k:Nat):Int),())) (by
  simp only [mP,aw,xm,aA,aM,cond_false,List.take_length];rfl) (fun k hk=>by
  have hb:=zE (fun r:dY=>decide (r.1≤((dH xs:Nat):Int))) xs k;rw [wU _ _ hk];simp only [mP,aw,xm,aA,aE hk,ax,cond_true,aF,List.getElem?_eq_getElem hk,Option.bind_some,aN (show k<4611686018427387904 by omega),aT (show (((xs.take k).filter (fun r=>decide (r.1≤((dH xs:Nat):Int)))).length+1)*40≤lim by unfold lim;omega)]
  by_cases h1:xs[k].1≤((dH xs:Nat):Int)
  ·rw [ak h1];rfl
  ·rw [aq h1,if_neg (by decide),List.append_nil];rfl)
 have l1:aJ mP (((dH xs:Nat):Int),[],xs,((xs.length:Nat):Int),(0:Int),())=_:=l1;unfold zg;simp only [a1,Option.bind_some,l1,cg]
noncomputable def iH (xs:List dS) (c:Int) (d:Int×Unit):aV×Unit:=((tJ (fT xs c d.1)).2.2.2.1,())
noncomputable def tN (xs:List dS) (c:Int) (ms:dC) (id:Int):aV:=xr (xq ((ff xs c ms id).map (iH xs c)))
noncomputable def tV (xs:List dS) (c:Int) (ms:dC) (id heard:Int):aV:=
 match fT xs c id with
 |none=>[]
 |some gJ=>bif decide (gJ.2.2.1=0) then [] else (tN xs c ms id).filter fun r=>decide (heard<r.1)
theorem uI (xs:List dS) (c:Int) (h:jr xs) (d:Int×Unit):(iH xs c d).1.length≤1048576:=by
 have UK:=h.len;unfold iH
 cases hb:fT xs c d.1 with
 |none=>exact Nat.zero_le _
 |some b=>
  obtain ⟨k,hk,rfl⟩:=List.mem_iff_getElem.1 (Fp hb).1;exact h.at hk
theorem Ui (bH:Int) (bK:dC) (xs:List dS) (id heard:Int) (h0:bK.length≤1048576) (h:jr xs):uS bH bK xs id heard=some (tV xs bH bK id heard,()):=by
 have UK:=h.len;obtain ⟨t1,t2,t3⟩:=ss bH bK xs id h0 h;have hw:(ff xs bH bK id).length≤1048576:=by omega
 have hls:((ff xs bH bK id).map (iH xs bH)).length≤1048576:=by rw [List.length_map];exact hw
 have Uj:∀l∈(ff xs bH bK id).map (iH xs bH),l.1.length≤1048576:=fun l hl=>by
  obtain ⟨d,_,rfl⟩:=List.mem_map.1 hl;exact uI xs bH h d
 have hu:(xq ((ff xs bH bK id).map (iH xs bH))).length≤1048576:=xZ (nU _ (out:=[]) pV Uj);have hwl:(tN xs bH bK id).length≤1048576:=Nat.le_trans (List.length_filter_le _ _) hu;unfold uS tV;rw [rX _ _ _ _ h]
 cases hm:fT xs bH id with
 |none=>rfl
 |some gJ=>
  by_cases ho:gJ.2.2.1=0
  ·simp only [tJ,Option.bind_some,Bool.not_true,cond_false,Xv ho,cond_true]
  simp only [tJ,Option.bind_some,Bool.not_true,cond_false,Ub ho,t1,t2];have l1:=ck (round:=mi) (e:=.inl (heard,[],(ff xs bH bK id).map (iH xs bH),())) (ff xs bH bK id).length (fun k=>(xs,heard,bH,bK,[],((ff xs bH bK id).take k).map (iH xs bH),ff xs bH bK id,((k:Nat):Int),())) (by
   simp only [mi,bC,qH,aM,cond_false,List.take_length]) (fun k hk=>by
   simp only [mi,bC,qH,aE hk,ax,cond_true,aF,fl hk,List.getElem?_eq_getElem hk,Option.bind_some,rX _ _ _ _ h,List.length_map,List.length_take,Nat.min_eq_left (Nat.le_of_lt hk),aT (show (k+1)*24≤lim by unfold lim;omega),aN (show k<4611686018427387904 by omega)];rw [List.take_succ_eq_append_getElem hk,List.map_append];rfl)
  have l1:aJ mi (xs,heard,bH,bK,[],[],ff xs bH bK id,(0:Int),())=_:=l1;have l2:=ck (round:=oc) (e:=.inl ((tN xs bH bK id).filter (fun r=>decide (heard<r.1)),())) (tN xs bH bK id).length (fun k=>(heard,((tN xs bH bK id).take k).filter (fun r=>decide (heard<r.1)),tN xs bH bK id,((k:Nat):Int),())) (by
   simp only [oc,aw,y0,aA,aM,cond_false,List.take_length]) (fun k hk=>by
   have hb:=zE (fun r:dY=>decide (heard<r.1)) (tN xs bH bK id) k;rw [wU _ _ hk];simp only [oc,aw,y0,aA,aE hk,ax,cond_true,aF,fl hk,List.getElem?_eq_getElem hk,Option.bind_some,aN (show k<4611686018427387904 by omega),aT (show ((((tN xs bH bK id).take k).filter (fun r=>decide (heard<r.1))).length+1)*40≤lim by unfold lim;omega)]
   by_cases h1:heard<(tN xs bH bK id)[k].1
   ·rw [ak h1];rfl
   ·rw [aq h1,if_neg (by decide),List.append_nil];rfl)
  have l2:aJ oc (heard,[],xr (xq ((ff xs bH bK id).map (iH xs bH))),(0:Int),())=_:=l2;simp only [l1,cg,Option.bind_some,Qy _ hls Uj,QA _ hu,l2]
theorem Uk (bH:Int) (bK:dC) (xs:List dS) (id heard:Int) (h0:bK.length≤1048576) (h:jr xs):uU bH bK xs id heard=some (tV xs bH bK id heard,()):=by
 have UK:=h.len;obtain ⟨t1,t2,t3⟩:=ss bH bK xs id h0 h;have hw:(ff xs bH bK id).length≤1048576:=by omega
 have hls:((ff xs bH bK id).map (iH xs bH)).length≤1048576:=by rw [List.length_map];exact hw
 have Uj:∀l∈(ff xs bH bK id).map (iH xs bH),l.1.length≤1048576:=fun l hl=>by
  obtain ⟨d,_,rfl⟩:=List.mem_map.1 hl;exact uI xs bH h d
 have hu:(xq ((ff xs bH bK id).map (iH xs bH))).length≤1048576:=xZ (nU _ (out:=[]) pV Uj);have hwl:(tN xs bH bK id).length≤1048576:=Nat.le_trans (List.length_filter_le _ _) hu;unfold uU tV;rw [we _ _ _ _ h]
 cases hm:fT xs bH id with
 |none=>rfl
 |some gJ=>
  by_cases ho:gJ.2.2.1=0
  ·simp only [tJ,Option.bind_some,Bool.not_true,cond_false,Xv ho,cond_true]
  simp only [tJ,Option.bind_some,Bool.not_true,cond_false,Ub ho,t1,t2];have l1:=ck (round:=om) (e:=.inl (heard,(ff xs bH bK id).map (iH xs bH),())) (ff xs bH bK id).length (fun k=>(xs,heard,bH,bK,((ff xs bH bK id).take k).map (iH xs bH),ff xs bH bK id,(((ff xs bH bK id).length:Nat):Int),((k:Nat):Int),())) (by
   simp only [om,bC,zh,aM,cond_false,List.take_length]) (fun k hk=>by
   simp only [om,bC,zh,aE hk,ax,cond_true,aF,fl hk,List.getElem?_eq_getElem hk,Option.bind_some,we _ _ _ _ h,List.length_map,List.length_take,Nat.min_eq_left (Nat.le_of_lt hk),aT (show (k+1)*24≤lim by unfold lim;omega),aN (show k<4611686018427387904 by omega)];rw [List.take_succ_eq_append_getElem hk,List.map_append];rfl)
  have l1:aJ om (xs,heard,bH,bK,[],ff xs bH bK id,(((ff xs bH bK id).length:Nat):Int),(0:Int),())=_:=l1;have l2:=ck (round:=oq) (e:=.inl ((tN xs bH bK id).filter (fun r=>decide (heard<r.1)),())) (tN xs bH bK id).length (fun k=>(heard,((tN xs bH bK id).take k).filter (fun r=>decide (heard<r.1)),tN xs bH bK id,(((tN xs bH bK id).length:Nat):Int),((k:Nat):Int),())) (by
   simp only [oq,aw,zi,aA,aM,cond_false,List.take_length]) (fun k hk=>by
   have hb:=zE (fun r:dY=>decide (heard<r.1)) (tN xs bH bK id) k;rw [wU _ _ hk];simp only [oq,aw,zi,aA,aE hk,ax,cond_true,aF,fl hk,List.getElem?_eq_getElem hk,Option.bind_some,aN (show k<4611686018427387904 by omega),aT (show ((((tN xs bH bK id).take k).filter (fun r=>decide (heard<r.1))).length+1)*40≤lim by unfold lim;omega)]
   by_cases h1:heard<(tN xs bH bK id)[k].1
   ·rw [ak h1];rfl
   ·rw [aq h1,if_neg (by decide),List.append_nil];rfl)
  have l2:aJ oq (heard,[],xr (xq ((ff xs bH bK id).map (iH xs bH))),(((xr (xq ((ff xs bH bK id).map (iH xs bH)))).length:Nat):Int),(0:Int),())=_:=l2;simp only [l1,cg,Option.bind_some,Qz _ hls Uj,QB _ hu,l2]
theorem Ul (bH:Int) (bK:dC) (xs:List dS) (id heard:Int) (h0:bK.length≤1048576) (h:jr xs):uS bH bK xs id heard=some (tV xs bH bK id heard,())∧uU bH bK xs id heard=some (tV xs bH bK id heard,()):=⟨Ui _ _ _ _ _ h0 h,Uk _ _ _ _ _ h0 h⟩
theorem Ft {α:Type} (f:α→Nat) (p:α→Bool):(xs:List α)→wl f (xs.filter p)≤wl f xs
 | []=>Nat.le_refl _
 |x::xs=>by
  have:=Ft f p xs;rw [List.filter_cons]
  split
  ·rw [sf,sf];omega
  ·rw [sf];omega
theorem Um (xs:List dS) (c:Int) (ms:dC) (id:Int) (h:jr xs):(tN xs c ms id).length≤60∧wl dJ (tN xs c ms id)≤3600:=by
 have UK:=h.len;have Uj:∀l∈(ff xs c ms id).map (iH xs c),l.1.length≤1048576:=fun l hl=>by
  obtain ⟨d,_,rfl⟩:=List.mem_map.1 hl;exact uI xs c h d
 have:=dD _ (nU _ (out:=[]) pV Uj);unfold tN xr;exact ⟨Nat.le_trans (List.length_filter_le _ _) this.1,Nat.le_trans (Ft _ _ _) this.2⟩
theorem QC (xs:List dS) (c:Int) (ms:dC) (id heard:Int) (h:jr xs):(tV xs c ms id heard).length≤60∧wl dJ (tV xs c ms id heard)≤3600:=by
 have UK:=h.len;have:=Um xs c ms id h;unfold tV
 cases fT xs c id with
 |none=>exact ⟨Nat.zero_le _,Nat.zero_le _⟩
 |some gJ=>
  show (bif decide (gJ.2.2.1=0) then [] else (tN xs c ms id).filter fun r=>decide (heard<r.1)).length≤60∧wl dJ (bif decide (gJ.2.2.1=0) then [] else (tN xs c ms id).filter fun r=>decide (heard<r.1))≤3600
  cases decide (gJ.2.2.1=0)
  ·exact ⟨Nat.le_trans (List.length_filter_le _ _) this.1,Nat.le_trans (Ft _ _ _) this.2⟩
  ·exact ⟨Nat.zero_le _,Nat.zero_le _⟩
end Go.TM
set_option linter.unusedSimpArgs false
set_option linter.unusedVariables false
namespace Go.TM
open Go
noncomputable def jT (c:Int) (ms:List (Int×Unit)) (xs:List dS):Bool:=ms.all fun m=>(fT xs c m.1).isSome
theorem XG (b:dS) (c id:Int) (ms:List (Int×Unit)) (h:b.2.2.2.1.length≤1048576):qP b.1 b.2.1 b.2.2.1 b.2.2.2.1 [(id,())] [(c,ms,())]=some (decide (b.1=id)&&(decide (b.2.1=c)&&lM b),()):=by
 unfold qP;have h1:=(rW b h).2;simp only [List.getElem?_cons_zero,Option.bind_some,h1]
 cases decide (b.1=id)
 ·rfl
 cases decide (b.2.1=c)
 ·rfl
 ·rfl
theorem QD (xs:List dS) (c id:Int) (ms:List (Int×Unit)) (h:jr xs):fj xs [([(id,())],[(c,ms,())],())]=some ((fT xs c id).isSome,()):=by
 have UK:=h.len;obtain ⟨e,he,hq⟩:=dG (round:=dk) (x:=(xs,[([(id,())],[(c,ms,())],())],((List.length xs:Nat):Int),((0:Nat):Int),())) xs.length
  (fun k x=>x=(xs,[([(id,())],[(c,ms,())],())],((List.length xs:Nat):Int),((k:Nat):Int),())∧fT xs c id=fT (xs.drop k) c id)
  (fun e=>(e=.inl ()∧fT xs c id=none)∨(∃j:Nat,e=.inr (((j:Nat):Int),())∧(fT xs c id).isSome=true)) (by
   rintro x ⟨rfl,g⟩
   refine ⟨.inl (),by simp only [dk,aw,gY,aw,aM,cond_false],.inl ⟨rfl,?_⟩⟩;rw [g,List.drop_length];rfl) (by
   rintro k x hk ⟨rfl,g⟩
   rw [IF xs c id hk] at g;have h1:=XG xs[k] c id ms (h.at hk);simp only [dk,aw,gY,aw,aE hk,ax,cond_true,aF,List.getElem?_eq_getElem hk,List.getElem?_cons_zero,Option.bind_some,h1,aN (show k<4611686018427387904 by omega)]
   cases hb:(decide (xs[k].1=id)&&(decide (xs[k].2.1=c)&&lM xs[k]))
   ·rw [hb] at g;exact .inr ⟨_,rfl,rfl,g⟩
   ·rw [hb] at g;exact .inl ⟨_,rfl,.inr ⟨k,rfl,by rw [g];rfl⟩⟩) ⟨rfl,rfl⟩
 have he:aJ dk (xs,[([(id,())],[(c,ms,())],())],((List.length xs:Nat):Int),(0:Int),())=some e:=he;unfold fj ja;rw [he];rcases hq with ⟨rfl,q⟩ | ⟨j,rfl,q⟩
 ·rw [q];rfl
 ·rw [q];simp only [VS,Option.bind_some,ax]
theorem Eg (c:Int) (ms:List (Int×Unit)) (xs:List dS) (h0:ms.length≤1048576) (h:jr xs):kI c ms xs=some (jT c ms xs,())∧qQ c ms xs=some (jT c ms xs,()):=by
 have UK:=h.len;have Ou:∀ {k:Nat} (hk:k<ms.length),jT c (ms.drop k) xs=((fT xs c ms[k].1).isSome&&jT c (ms.drop (k+1)) xs):=fun hk=>by
  unfold jT;rw [List.drop_eq_getElem_cons hk,List.all_cons]
 have fin:∀ {e:Sum Unit (Bool×Unit)} {b:Bool},((e=.inl ()∧b=true)∨(e=.inr (false,())∧b=false))→cg (some e) (fun _=>some (true,())) (fun y=>some (y.1,()))=some (b,()):=by
  rintro e b (⟨rfl,rfl⟩ | ⟨rfl,rfl⟩)
  ·rfl
  ·rfl
 constructor
 ·obtain ⟨e,he,hq⟩:=dG (round:=iY) (x:=(xs,c,ms,((0:Nat):Int),())) ms.length
   (fun k x=>x=(xs,c,ms,((k:Nat):Int),())∧jT c ms xs=jT c (ms.drop k) xs)
   (fun e=>(e=.inl ()∧jT c ms xs=true)∨(e=.inr (false,())∧jT c ms xs=false)) (by
    rintro x ⟨rfl,g⟩
    refine ⟨.inl (),by simp only [iY,aw,mB,aM,cond_false],.inl ⟨rfl,?_⟩⟩;rw [g,List.drop_length];rfl) (by
    rintro k x hk ⟨rfl,g⟩
    rw [Ou hk] at g;simp only [iY,aw,mB,aE hk,ax,cond_true,aF,List.getElem?_eq_getElem hk,Option.bind_some,rX c ms xs _ h,aN (show k<4611686018427387904 by omega)]
    cases hb:fT xs c ms[k].1 with
    |none=>
     rw [hb] at g;exact .inl ⟨_,rfl,.inr ⟨rfl,g⟩⟩
    |some b=>
     rw [hb] at g;exact .inr ⟨_,rfl,rfl,g⟩) ⟨rfl,rfl⟩
  have he:aJ iY (xs,c,ms,(0:Int),())=some e:=he;unfold kI;rw [he];exact fin hq
 ·obtain ⟨e,he,hq⟩:=dG (round:=ky) (x:=(xs,[(c,ms,())],ms,((List.length ms:Nat):Int),((0:Nat):Int),())) ms.length
   (fun k x=>x=(xs,[(c,ms,())],ms,((List.length ms:Nat):Int),((k:Nat):Int),())∧jT c ms xs=jT c (ms.drop k) xs)
   (fun e=>(e=.inl ()∧jT c ms xs=true)∨(e=.inr (false,())∧jT c ms xs=false)) (by
    rintro x ⟨rfl,g⟩
    refine ⟨.inl (),by simp only [ky,aw,tH,aM,cond_false],.inl ⟨rfl,?_⟩⟩;rw [g,List.drop_length];rfl) (by
    rintro k x hk ⟨rfl,g⟩
    rw [Ou hk] at g;simp only [ky,aw,tH,aE hk,ax,cond_true,aF,List.getElem?_eq_getElem hk,Option.bind_some,QD xs c _ ms h,aN (show k<4611686018427387904 by omega)]
    cases hb:(fT xs c ms[k].1).isSome
    ·rw [hb] at g;exact .inl ⟨_,rfl,.inr ⟨rfl,g⟩⟩
    ·rw [hb] at g;exact .inr ⟨_,rfl,rfl,g⟩) ⟨rfl,rfl⟩
  have he:aJ ky (xs,[(c,ms,())],ms,((List.length ms:Nat):Int),(0:Int),())=some e:=he;unfold qQ;rw [he];exact fin hq
end Go.TM
set_option linter.unusedSimpArgs false
set_option linter.unusedVariables false
namespace Go.TM
open Go
def ZH:jc:=(0,0,[],[],[],[],0,0,0,0,0,0,0,0,0,[],())
def XH (m:jc) (level:Int) (text:ByteArray):jc:=(m.1,m.2.1,m.2.2.1,m.2.2.2.1,m.2.2.2.2.1++[(level,())],m.2.2.2.2.2.1++[(text,())],m.2.2.2.2.2.2)
noncomputable def XI (m:jc) (level:Int) (text:ByteArray):Bool:=uH m&&((decide (1≤level)&&decide (level≤2))&&(decide (ByteArray.size text≤60)&&decide (m.2.2.2.2.2.1.length<20)))
noncomputable def eS (m:jc) (level:Int) (text:ByteArray):jc×Bool:=bif XI m level text then (XH m level text,true) else (ZH,false)
theorem XJ (m:jc) (level:Int) (text:ByteArray) (h:mq m≤1048576):AL m.1 m.2.1 m.2.2.1 m.2.2.2.1 m.2.2.2.2.1 m.2.2.2.2.2.1 m.2.2.2.2.2.2.1 m.2.2.2.2.2.2.2.1 m.2.2.2.2.2.2.2.2.1 m.2.2.2.2.2.2.2.2.2.1 m.2.2.2.2.2.2.2.2.2.2.1 m.2.2.2.2.2.2.2.2.2.2.2.1 m.2.2.2.2.2.2.2.2.2.2.2.2.1 m.2.2.2.2.2.2.2.2.2.2.2.2.2.1 m.2.2.2.2.2.2.2.2.2.2.2.2.2.2.1 m.2.2.2.2.2.2.2.2.2.2.2.2.2.2.2.1 level text=some ((eS m level text).1.1,(eS m level text).1.2.1,(eS m level text).1.2.2.1,(eS m level text).1.2.2.2.1,(eS m level text).1.2.2.2.2.1,(eS m level text).1.2.2.2.2.2.1,(eS m level text).1.2.2.2.2.2.2.1,(eS m level text).1.2.2.2.2.2.2.2.1,(eS m level text).1.2.2.2.2.2.2.2.2.1,(eS m level text).1.2.2.2.2.2.2.2.2.2.1,(eS m level text).1.2.2.2.2.2.2.2.2.2.2.1,(eS m level text).1.2.2.2.2.2.2.2.2.2.2.2.1,(eS m level text).1.2.2.2.2.2.2.2.2.2.2.2.2.1,(eS m level text).1.2.2.2.2.2.2.2.2.2.2.2.2.2.1,(eS m level text).1.2.2.2.2.2.2.2.2.2.2.2.2.2.2.1,(eS m level text).1.2.2.2.2.2.2.2.2.2.2.2.2.2.2.2.1,(eS m level text).2,())∧Bm m.1 m.2.1 m.2.2.1 m.2.2.2.1 m.2.2.2.2.1 m.2.2.2.2.2.1 m.2.2.2.2.2.2.1 m.2.2.2.2.2.2.2.1 m.2.2.2.2.2.2.2.2.1 m.2.2.2.2.2.2.2.2.2.1 m.2.2.2.2.2.2.2.2.2.2.1 m.2.2.2.2.2.2.2.2.2.2.2.1 m.2.2.2.2.2.2.2.2.2.2.2.2.1 m.2.2.2.2.2.2.2.2.2.2.2.2.2.1 m.2.2.2.2.2.2.2.2.2.2.2.2.2.2.1 m.2.2.2.2.2.2.2.2.2.2.2.2.2.2.2.1 level text=some ((eS m level text).1.1,(eS m level text).1.2.1,(eS m level text).1.2.2.1,(eS m level text).1.2.2.2.1,(eS m level text).1.2.2.2.2.1,(eS m level text).1.2.2.2.2.2.1,(eS m level text).1.2.2.2.2.2.2.1,(eS m level text).1.2.2.2.2.2.2.2.1,(eS m level text).1.2.2.2.2.2.2.2.2.1,(eS m level text).1.2.2.2.2.2.2.2.2.2.1,(eS m level text).1.2.2.2.2.2.2.2.2.2.2.1,(eS m level text).1.2.2.2.2.2.2.2.2.2.2.2.1,(eS m level text).1.2.2.2.2.2.2.2.2.2.2.2.2.1,(eS m level text).1.2.2.2.2.2.2.2.2.2.2.2.2.2.1,(eS m level text).1.2.2.2.2.2.2.2.2.2.2.2.2.2.2.1,(eS m level text).1.2.2.2.2.2.2.2.2.2.2.2.2.2.2.2.1,(eS m level text).2,()):=by
 obtain ⟨k1,k2,k3⟩:=tL m h;obtain ⟨p1,p2⟩:=nS m.1 m.2.1 m.2.2.1 m.2.2.2.1 m.2.2.2.2.1 m.2.2.2.2.2.1 m.2.2.2.2.2.2.1 m.2.2.2.2.2.2.2.1 m.2.2.2.2.2.2.2.2.1 m.2.2.2.2.2.2.2.2.2.1 m.2.2.2.2.2.2.2.2.2.2.1 m.2.2.2.2.2.2.2.2.2.2.2.1 m.2.2.2.2.2.2.2.2.2.2.2.2.1 m.2.2.2.2.2.2.2.2.2.2.2.2.2.1 m.2.2.2.2.2.2.2.2.2.2.2.2.2.2.1 m.2.2.2.2.2.2.2.2.2.2.2.2.2.2.2.1 h;unfold AL Bm eS XI;delta aA eE;simp only [k1,k2,p1,p2,mG,Ea,Option.bind_some]
 cases hb:uH m
 ·cases (decide (1≤level)&&decide (level≤2))
  ·exact ⟨rfl,rfl⟩
  cases decide ((60:Int)<((ByteArray.size text:Nat):Int))
  ·cases decide ((20:Int)≤((List.length m.2.2.2.2.2.1:Nat):Int))
   ·exact ⟨rfl,rfl⟩
   ·exact ⟨rfl,rfl⟩
  ·exact ⟨rfl,rfl⟩
 have hs:=(k3.1 hb).small;unfold mq at hs
 cases (decide (1≤level)&&decide (level≤2))
 ·exact ⟨rfl,rfl⟩
 by_cases w1:ByteArray.size text≤60
 case neg=>rw [aq w1,ak (show (60:Int)<((ByteArray.size text:Nat):Int) by omega)];exact ⟨rfl,rfl⟩
 by_cases w2:m.2.2.2.2.2.1.length<20
 case neg=>rw [ak w1,aq w2,aq (show ¬(60:Int)<((ByteArray.size text:Nat):Int) by omega),ak (show (20:Int)≤((List.length m.2.2.2.2.2.1:Nat):Int) by omega)];exact ⟨rfl,rfl⟩
 rw [ak w1,ak w2,aq (show ¬(60:Int)<((ByteArray.size text:Nat):Int) by omega),aq (show ¬(20:Int)≤((List.length m.2.2.2.2.2.1:Nat):Int) by omega)];simp only [Bool.not_true,cond_false,aT (show (m.2.2.2.2.1.length+1)*8≤lim by unfold lim;omega),aT (show (m.2.2.2.2.2.1.length+1)*16≤lim by unfold lim;omega),cond_true,Bool.and_true];exact ⟨rfl,rfl⟩
theorem mT (c:Int) (xs:dC) (h:xs.length≤1048576):bM c xs=some (c,xs,()):=by
 unfold bM;rw [lL _ h];rfl
end Go.TM
set_option linter.unusedSimpArgs false
set_option linter.unusedVariables false
namespace Go.TM
open Go
theorem jt (b:dS) (h:b.2.2.2.1.length≤1048576):gd b.1 b.2.1 b.2.2.1 b.2.2.2.1=some b∧kr b.1 b.2.1 b.2.2.1 b.2.2.2.1=some b:=by
 constructor
 ·unfold gd;rw [aT (show (0+b.2.2.2.1.length)*40≤lim by unfold lim;omega)];rfl
 ·unfold kr;rw [wT _ h];rfl
theorem Fu (xs:List dS) (h:xs.length+wl ef xs≤1048576):gL xs=some (xs,()):=by
 have hl:=ck (round:=cQ) (e:=.inl (xs,())) xs.length (fun k=>(xs,xs.take k,((k:Nat):Int),())) (by
  simp only [cQ,gD,aw,aA,aM,cond_false,List.take_length]) (fun k hk=>by
  simp only [cQ,gD,aw,aA,aE hk,ax,cond_true,aF,List.getElem?_eq_getElem hk,Option.bind_some,(jt xs[k] (Ec xs hk h)).1,List.length_take,Nat.min_eq_left (Nat.le_of_lt hk),aT (show (k+1)*48≤lim by unfold lim;omega),aN (show k<4611686018427387904 by omega)];rw [List.take_succ_eq_append_getElem hk])
 have hl:aJ cQ (xs,[],(0:Int),())=_:=hl;unfold gL;rw [hl];rfl
theorem Fv (xs:List dS) (h:xs.length+wl ef xs≤1048576):og xs=some (xs,()):=by
 have hl:=ck (round:=gM) (e:=.inl (xs,())) xs.length (fun k=>(xs.take k,xs,((xs.length:Nat):Int),((k:Nat):Int),())) (by
  simp only [gM,aw,oR,aw,aA,aM,cond_false,List.take_length]) (fun k hk=>by
  simp only [gM,aw,oR,aw,aA,aE hk,ax,cond_true,aF,List.getElem?_eq_getElem hk,Option.bind_some,(jt xs[k] (Ec xs hk h)).2,List.length_take,Nat.min_eq_left (Nat.le_of_lt hk),aT (show (k+1)*48≤lim by unfold lim;omega),aN (show k<4611686018427387904 by omega)];rw [List.take_succ_eq_append_getElem hk])
 have hl:aJ gM ([],xs,((xs.length:Nat):Int),(0:Int),())=_:=hl;unfold og;rw [hl];rfl
theorem uJ (d:bZ) (h:ow d≤1048576):cn d.1 d.2.1 d.2.2.1 d.2.2.2.1 d.2.2.2.2.1 d.2.2.2.2.2.1 d.2.2.2.2.2.2.1 d.2.2.2.2.2.2.2.1 d.2.2.2.2.2.2.2.2.1 d.2.2.2.2.2.2.2.2.2.1 d.2.2.2.2.2.2.2.2.2.2.1 d.2.2.2.2.2.2.2.2.2.2.2.1 d.2.2.2.2.2.2.2.2.2.2.2.2.1 d.2.2.2.2.2.2.2.2.2.2.2.2.2.1 d.2.2.2.2.2.2.2.2.2.2.2.2.2.2.1 d.2.2.2.2.2.2.2.2.2.2.2.2.2.2.2.1 d.2.2.2.2.2.2.2.2.2.2.2.2.2.2.2.2.1 d.2.2.2.2.2.2.2.2.2.2.2.2.2.2.2.2.2.1 d.2.2.2.2.2.2.2.2.2.2.2.2.2.2.2.2.2.2.1 d.2.2.2.2.2.2.2.2.2.2.2.2.2.2.2.2.2.2.2.1 d.2.2.2.2.2.2.2.2.2.2.2.2.2.2.2.2.2.2.2.2.1 d.2.2.2.2.2.2.2.2.2.2.2.2.2.2.2.2.2.2.2.2.2.1 d.2.2.2.2.2.2.2.2.2.2.2.2.2.2.2.2.2.2.2.2.2.2.1 d.2.2.2.2.2.2.2.2.2.2.2.2.2.2.2.2.2.2.2.2.2.2.2.1=some d∧eg d.1 d.2.1 d.2.2.1 d.2.2.2.1 d.2.2.2.2.1 d.2.2.2.2.2.1 d.2.2.2.2.2.2.1 d.2.2.2.2.2.2.2.1 d.2.2.2.2.2.2.2.2.1 d.2.2.2.2.2.2.2.2.2.1 d.2.2.2.2.2.2.2.2.2.2.1 d.2.2.2.2.2.2.2.2.2.2.2.1 d.2.2.2.2.2.2.2.2.2.2.2.2.1 d.2.2.2.2.2.2.2.2.2.2.2.2.2.1 d.2.2.2.2.2.2.2.2.2.2.2.2.2.2.1 d.2.2.2.2.2.2.2.2.2.2.2.2.2.2.2.1 d.2.2.2.2.2.2.2.2.2.2.2.2.2.2.2.2.1 d.2.2.2.2.2.2.2.2.2.2.2.2.2.2.2.2.2.1 d.2.2.2.2.2.2.2.2.2.2.2.2.2.2.2.2.2.2.1 d.2.2.2.2.2.2.2.2.2.2.2.2.2.2.2.2.2.2.2.1 d.2.2.2.2.2.2.2.2.2.2.2.2.2.2.2.2.2.2.2.2.1 d.2.2.2.2.2.2.2.2.2.2.2.2.2.2.2.2.2.2.2.2.2.1 d.2.2.2.2.2.2.2.2.2.2.2.2.2.2.2.2.2.2.2.2.2.2.1 d.2.2.2.2.2.2.2.2.2.2.2.2.2.2.2.2.2.2.2.2.2.2.2.1=some d:=by
 have h0:=h;unfold ow at h0;have p:gC d.2.2.1 d.2.2.2.1 d.2.2.2.2.1 d.2.2.2.2.2.1 d.2.2.2.2.2.2.1 d.2.2.2.2.2.2.2.1 d.2.2.2.2.2.2.2.2.1 d.2.2.2.2.2.2.2.2.2.1 d.2.2.2.2.2.2.2.2.2.2.1 d.2.2.2.2.2.2.2.2.2.2.2.1 d.2.2.2.2.2.2.2.2.2.2.2.2.1 d.2.2.2.2.2.2.2.2.2.2.2.2.2.1 d.2.2.2.2.2.2.2.2.2.2.2.2.2.2.1 d.2.2.2.2.2.2.2.2.2.2.2.2.2.2.2.1 d.2.2.2.2.2.2.2.2.2.2.2.2.2.2.2.2.1 d.2.2.2.2.2.2.2.2.2.2.2.2.2.2.2.2.2.1=some (d.2.2.1,d.2.2.2.1,d.2.2.2.2.1,d.2.2.2.2.2.1,d.2.2.2.2.2.2.1,d.2.2.2.2.2.2.2.1,d.2.2.2.2.2.2.2.2.1,d.2.2.2.2.2.2.2.2.2.1,d.2.2.2.2.2.2.2.2.2.2.1,d.2.2.2.2.2.2.2.2.2.2.2.1,d.2.2.2.2.2.2.2.2.2.2.2.2.1,d.2.2.2.2.2.2.2.2.2.2.2.2.2.1,d.2.2.2.2.2.2.2.2.2.2.2.2.2.2.1,d.2.2.2.2.2.2.2.2.2.2.2.2.2.2.2.1,d.2.2.2.2.2.2.2.2.2.2.2.2.2.2.2.2.1,d.2.2.2.2.2.2.2.2.2.2.2.2.2.2.2.2.2.1,())∧fS d.2.2.1 d.2.2.2.1 d.2.2.2.2.1 d.2.2.2.2.2.1 d.2.2.2.2.2.2.1 d.2.2.2.2.2.2.2.1 d.2.2.2.2.2.2.2.2.1 d.2.2.2.2.2.2.2.2.2.1 d.2.2.2.2.2.2.2.2.2.2.1 d.2.2.2.2.2.2.2.2.2.2.2.1 d.2.2.2.2.2.2.2.2.2.2.2.2.1 d.2.2.2.2.2.2.2.2.2.2.2.2.2.1 d.2.2.2.2.2.2.2.2.2.2.2.2.2.2.1 d.2.2.2.2.2.2.2.2.2.2.2.2.2.2.2.1 d.2.2.2.2.2.2.2.2.2.2.2.2.2.2.2.2.1 d.2.2.2.2.2.2.2.2.2.2.2.2.2.2.2.2.2.1=some (d.2.2.1,d.2.2.2.1,d.2.2.2.2.1,d.2.2.2.2.2.1,d.2.2.2.2.2.2.1,d.2.2.2.2.2.2.2.1,d.2.2.2.2.2.2.2.2.1,d.2.2.2.2.2.2.2.2.2.1,d.2.2.2.2.2.2.2.2.2.2.1,d.2.2.2.2.2.2.2.2.2.2.2.1,d.2.2.2.2.2.2.2.2.2.2.2.2.1,d.2.2.2.2.2.2.2.2.2.2.2.2.2.1,d.2.2.2.2.2.2.2.2.2.2.2.2.2.2.1,d.2.2.2.2.2.2.2.2.2.2.2.2.2.2.2.1,d.2.2.2.2.2.2.2.2.2.2.2.2.2.2.2.2.1,d.2.2.2.2.2.2.2.2.2.2.2.2.2.2.2.2.2.1,()):=nS d.2.2.1 d.2.2.2.1 d.2.2.2.2.1 d.2.2.2.2.2.1 d.2.2.2.2.2.2.1 d.2.2.2.2.2.2.2.1 d.2.2.2.2.2.2.2.2.1 d.2.2.2.2.2.2.2.2.2.1 d.2.2.2.2.2.2.2.2.2.2.1 d.2.2.2.2.2.2.2.2.2.2.2.1 d.2.2.2.2.2.2.2.2.2.2.2.2.1 d.2.2.2.2.2.2.2.2.2.2.2.2.2.1 d.2.2.2.2.2.2.2.2.2.2.2.2.2.2.1 d.2.2.2.2.2.2.2.2.2.2.2.2.2.2.2.1 d.2.2.2.2.2.2.2.2.2.2.2.2.2.2.2.2.1 d.2.2.2.2.2.2.2.2.2.2.2.2.2.2.2.2.2.1 (by omega)
 constructor
 ·unfold cn;delta cV;simp only [p.1,Fu d.2.2.2.2.2.2.2.2.2.2.2.2.2.2.2.2.2.2.2.2.2.2.1 (by omega),tI d.2.2.2.2.2.2.2.2.2.2.2.2.2.2.2.2.2.2.2.2.2.2.2.1 (by omega),Option.bind_some,aT (show (0+(d.2.2.2.2.2.2.2.2.2.2.2.2.2.2.2.2.2.2.2.2.2.1).length)*8≤lim by unfold lim;omega),cond_true,List.nil_append]
 ·unfold eg;delta cV;simp only [p.2,Fv d.2.2.2.2.2.2.2.2.2.2.2.2.2.2.2.2.2.2.2.2.2.2.1 (by omega),GI d.2.2.2.2.2.2.2.2.2.2.2.2.2.2.2.2.2.2.2.2.2.2.2.1 (by omega),mT d.2.2.2.2.2.2.2.2.2.2.2.2.2.2.2.2.2.2.2.2.1 d.2.2.2.2.2.2.2.2.2.2.2.2.2.2.2.2.2.2.2.2.2.1 (by omega),Option.bind_some]
def Eh:bZ:=(0,false,0,0,[],[],[],[],0,0,0,0,0,0,0,0,0,[],0,0,0,[],[],[],())
def alb (d:bZ):bZ:=(d.1,false,d.2.2)
noncomputable def ju (d:bZ):bZ×Bool:=bif jd d&&d.2.1 then (alb d,true) else (Eh,false)
def jU (d:bZ) (m:jc):bZ:=(d.1,d.2.1,m.1,m.2.1,m.2.2.1,m.2.2.2.1,m.2.2.2.2.1,m.2.2.2.2.2.1,m.2.2.2.2.2.2.1,m.2.2.2.2.2.2.2.1,m.2.2.2.2.2.2.2.2.1,m.2.2.2.2.2.2.2.2.2.1,m.2.2.2.2.2.2.2.2.2.2.1,m.2.2.2.2.2.2.2.2.2.2.2.1,m.2.2.2.2.2.2.2.2.2.2.2.2.1,m.2.2.2.2.2.2.2.2.2.2.2.2.2.1,m.2.2.2.2.2.2.2.2.2.2.2.2.2.2.1,m.2.2.2.2.2.2.2.2.2.2.2.2.2.2.2.1,d.2.2.2.2.2.2.2.2.2.2.2.2.2.2.2.2.2.2.1,d.2.2.2.2.2.2.2.2.2.2.2.2.2.2.2.2.2.2.2.1,d.2.2.2.2.2.2.2.2.2.2.2.2.2.2.2.2.2.2.2.2.1,d.2.2.2.2.2.2.2.2.2.2.2.2.2.2.2.2.2.2.2.2.2.1,d.2.2.2.2.2.2.2.2.2.2.2.2.2.2.2.2.2.2.2.2.2.2.1,d.2.2.2.2.2.2.2.2.2.2.2.2.2.2.2.2.2.2.2.2.2.2.2.1,())
noncomputable def bP (d:bZ) (level:Int) (text:ByteArray):bZ×Bool:=
 bif jd d&&(!d.2.1&&(!decide (d.2.2.2.2.2.2.2.2.2.2.2.2.2.2.2.2.2.2.2.1=0)&&(eS (aI d) level text).2)) then (jU d (eS (aI d) level text).1,true) else (Eh,false)
theorem XK (d:bZ):mq (aI d)≤ow d:=by
 unfold ow;show (List.length d.2.2.2.2.1+wl jV d.2.2.2.2.1)+(List.length d.2.2.2.2.2.1+wl dJ d.2.2.2.2.2.1)+(List.length d.2.2.2.2.2.2.1+wl jV d.2.2.2.2.2.2.1)+(List.length d.2.2.2.2.2.2.2.1+wl Jx d.2.2.2.2.2.2.2.1)+(List.length d.2.2.2.2.2.2.2.2.2.2.2.2.2.2.2.2.2.1+wl jV d.2.2.2.2.2.2.2.2.2.2.2.2.2.2.2.2.2.1)≤_;omega
theorem Ov (d:bZ) (level:Int) (text:ByteArray) (h:ow d≤1048576):qq d.1 d.2.1 d.2.2.1 d.2.2.2.1 d.2.2.2.2.1 d.2.2.2.2.2.1 d.2.2.2.2.2.2.1 d.2.2.2.2.2.2.2.1 d.2.2.2.2.2.2.2.2.1 d.2.2.2.2.2.2.2.2.2.1 d.2.2.2.2.2.2.2.2.2.2.1 d.2.2.2.2.2.2.2.2.2.2.2.1 d.2.2.2.2.2.2.2.2.2.2.2.2.1 d.2.2.2.2.2.2.2.2.2.2.2.2.2.1 d.2.2.2.2.2.2.2.2.2.2.2.2.2.2.1 d.2.2.2.2.2.2.2.2.2.2.2.2.2.2.2.1 d.2.2.2.2.2.2.2.2.2.2.2.2.2.2.2.2.1 d.2.2.2.2.2.2.2.2.2.2.2.2.2.2.2.2.2.1 d.2.2.2.2.2.2.2.2.2.2.2.2.2.2.2.2.2.2.1 d.2.2.2.2.2.2.2.2.2.2.2.2.2.2.2.2.2.2.2.1 d.2.2.2.2.2.2.2.2.2.2.2.2.2.2.2.2.2.2.2.2.1 d.2.2.2.2.2.2.2.2.2.2.2.2.2.2.2.2.2.2.2.2.2.1 d.2.2.2.2.2.2.2.2.2.2.2.2.2.2.2.2.2.2.2.2.2.2.1 d.2.2.2.2.2.2.2.2.2.2.2.2.2.2.2.2.2.2.2.2.2.2.2.1 level text=some ((bP d level text).1.1,(bP d level text).1.2.1,(bP d level text).1.2.2.1,(bP d level text).1.2.2.2.1,(bP d level text).1.2.2.2.2.1,(bP d level text).1.2.2.2.2.2.1,(bP d level text).1.2.2.2.2.2.2.1,(bP d level text).1.2.2.2.2.2.2.2.1,(bP d level text).1.2.2.2.2.2.2.2.2.1,(bP d level text).1.2.2.2.2.2.2.2.2.2.1,(bP d level text).1.2.2.2.2.2.2.2.2.2.2.1,(bP d level text).1.2.2.2.2.2.2.2.2.2.2.2.1,(bP d level text).1.2.2.2.2.2.2.2.2.2.2.2.2.1,(bP d level text).1.2.2.2.2.2.2.2.2.2.2.2.2.2.1,(bP d level text).1.2.2.2.2.2.2.2.2.2.2.2.2.2.2.1,(bP d level text).1.2.2.2.2.2.2.2.2.2.2.2.2.2.2.2.1,(bP d level text).1.2.2.2.2.2.2.2.2.2.2.2.2.2.2.2.2.1,(bP d level text).1.2.2.2.2.2.2.2.2.2.2.2.2.2.2.2.2.2.1,(bP d level text).1.2.2.2.2.2.2.2.2.2.2.2.2.2.2.2.2.2.2.1,(bP d level text).1.2.2.2.2.2.2.2.2.2.2.2.2.2.2.2.2.2.2.2.1,(bP d level text).1.2.2.2.2.2.2.2.2.2.2.2.2.2.2.2.2.2.2.2.2.1,(bP d level text).1.2.2.2.2.2.2.2.2.2.2.2.2.2.2.2.2.2.2.2.2.2.1,(bP d level text).1.2.2.2.2.2.2.2.2.2.2.2.2.2.2.2.2.2.2.2.2.2.2.1,(bP d level text).1.2.2.2.2.2.2.2.2.2.2.2.2.2.2.2.2.2.2.2.2.2.2.2.1,(bP d level text).2,())∧v8 d.1 d.2.1 d.2.2.1 d.2.2.2.1 d.2.2.2.2.1 d.2.2.2.2.2.1 d.2.2.2.2.2.2.1 d.2.2.2.2.2.2.2.1 d.2.2.2.2.2.2.2.2.1 d.2.2.2.2.2.2.2.2.2.1 d.2.2.2.2.2.2.2.2.2.2.1 d.2.2.2.2.2.2.2.2.2.2.2.1 d.2.2.2.2.2.2.2.2.2.2.2.2.1 d.2.2.2.2.2.2.2.2.2.2.2.2.2.1 d.2.2.2.2.2.2.2.2.2.2.2.2.2.2.1 d.2.2.2.2.2.2.2.2.2.2.2.2.2.2.2.1 d.2.2.2.2.2.2.2.2.2.2.2.2.2.2.2.2.1 d.2.2.2.2.2.2.2.2.2.2.2.2.2.2.2.2.2.1 d.2.2.2.2.2.2.2.2.2.2.2.2.2.2.2.2.2.2.1 d.2.2.2.2.2.2.2.2.2.2.2.2.2.2.2.2.2.2.2.1 d.2.2.2.2.2.2.2.2.2.2.2.2.2.2.2.2.2.2.2.2.1 d.2.2.2.2.2.2.2.2.2.2.2.2.2.2.2.2.2.2.2.2.2.1 d.2.2.2.2.2.2.2.2.2.2.2.2.2.2.2.2.2.2.2.2.2.2.1 d.2.2.2.2.2.2.2.2.2.2.2.2.2.2.2.2.2.2.2.2.2.2.2.1 level text=some ((bP d level text).1.1,(bP d level text).1.2.1,(bP d level text).1.2.2.1,(bP d level text).1.2.2.2.1,(bP d level text).1.2.2.2.2.1,(bP d level text).1.2.2.2.2.2.1,(bP d level text).1.2.2.2.2.2.2.1,(bP d level text).1.2.2.2.2.2.2.2.1,(bP d level text).1.2.2.2.2.2.2.2.2.1,(bP d level text).1.2.2.2.2.2.2.2.2.2.1,(bP d level text).1.2.2.2.2.2.2.2.2.2.2.1,(bP d level text).1.2.2.2.2.2.2.2.2.2.2.2.1,(bP d level text).1.2.2.2.2.2.2.2.2.2.2.2.2.1,(bP d level text).1.2.2.2.2.2.2.2.2.2.2.2.2.2.1,(bP d level text).1.2.2.2.2.2.2.2.2.2.2.2.2.2.2.1,(bP d level text).1.2.2.2.2.2.2.2.2.2.2.2.2.2.2.2.1,(bP d level text).1.2.2.2.2.2.2.2.2.2.2.2.2.2.2.2.2.1,(bP d level text).1.2.2.2.2.2.2.2.2.2.2.2.2.2.2.2.2.2.1,(bP d level text).1.2.2.2.2.2.2.2.2.2.2.2.2.2.2.2.2.2.2.1,(bP d level text).1.2.2.2.2.2.2.2.2.2.2.2.2.2.2.2.2.2.2.2.1,(bP d level text).1.2.2.2.2.2.2.2.2.2.2.2.2.2.2.2.2.2.2.2.2.1,(bP d level text).1.2.2.2.2.2.2.2.2.2.2.2.2.2.2.2.2.2.2.2.2.2.1,(bP d level text).1.2.2.2.2.2.2.2.2.2.2.2.2.2.2.2.2.2.2.2.2.2.2.1,(bP d level text).1.2.2.2.2.2.2.2.2.2.2.2.2.2.2.2.2.2.2.2.2.2.2.2.1,(bP d level text).2,()):=by
 obtain ⟨k1,k2,_⟩:=j6 d h;obtain ⟨p1,p2⟩:=uJ d h;have s:AL d.2.2.1 d.2.2.2.1 d.2.2.2.2.1 d.2.2.2.2.2.1 d.2.2.2.2.2.2.1 d.2.2.2.2.2.2.2.1 d.2.2.2.2.2.2.2.2.1 d.2.2.2.2.2.2.2.2.2.1 d.2.2.2.2.2.2.2.2.2.2.1 d.2.2.2.2.2.2.2.2.2.2.2.1 d.2.2.2.2.2.2.2.2.2.2.2.2.1 d.2.2.2.2.2.2.2.2.2.2.2.2.2.1 d.2.2.2.2.2.2.2.2.2.2.2.2.2.2.1 d.2.2.2.2.2.2.2.2.2.2.2.2.2.2.2.1 d.2.2.2.2.2.2.2.2.2.2.2.2.2.2.2.2.1 d.2.2.2.2.2.2.2.2.2.2.2.2.2.2.2.2.2.1 level text=some ((eS (aI d) level text).1.1,(eS (aI d) level text).1.2.1,(eS (aI d) level text).1.2.2.1,(eS (aI d) level text).1.2.2.2.1,(eS (aI d) level text).1.2.2.2.2.1,(eS (aI d) level text).1.2.2.2.2.2.1,(eS (aI d) level text).1.2.2.2.2.2.2.1,(eS (aI d) level text).1.2.2.2.2.2.2.2.1,(eS (aI d) level text).1.2.2.2.2.2.2.2.2.1,(eS (aI d) level text).1.2.2.2.2.2.2.2.2.2.1,(eS (aI d) level text).1.2.2.2.2.2.2.2.2.2.2.1,(eS (aI d) level text).1.2.2.2.2.2.2.2.2.2.2.2.1,(eS (aI d) level text).1.2.2.2.2.2.2.2.2.2.2.2.2.1,(eS (aI d) level text).1.2.2.2.2.2.2.2.2.2.2.2.2.2.1,(eS (aI d) level text).1.2.2.2.2.2.2.2.2.2.2.2.2.2.2.1,(eS (aI d) level text).1.2.2.2.2.2.2.2.2.2.2.2.2.2.2.2.1,(eS (aI d) level text).2,())∧Bm d.2.2.1 d.2.2.2.1 d.2.2.2.2.1 d.2.2.2.2.2.1 d.2.2.2.2.2.2.1 d.2.2.2.2.2.2.2.1 d.2.2.2.2.2.2.2.2.1 d.2.2.2.2.2.2.2.2.2.1 d.2.2.2.2.2.2.2.2.2.2.1 d.2.2.2.2.2.2.2.2.2.2.2.1 d.2.2.2.2.2.2.2.2.2.2.2.2.1 d.2.2.2.2.2.2.2.2.2.2.2.2.2.1 d.2.2.2.2.2.2.2.2.2.2.2.2.2.2.1 d.2.2.2.2.2.2.2.2.2.2.2.2.2.2.2.1 d.2.2.2.2.2.2.2.2.2.2.2.2.2.2.2.2.1 d.2.2.2.2.2.2.2.2.2.2.2.2.2.2.2.2.2.1 level text=some ((eS (aI d) level text).1.1,(eS (aI d) level text).1.2.1,(eS (aI d) level text).1.2.2.1,(eS (aI d) level text).1.2.2.2.1,(eS (aI d) level text).1.2.2.2.2.1,(eS (aI d) level text).1.2.2.2.2.2.1,(eS (aI d) level text).1.2.2.2.2.2.2.1,(eS (aI d) level text).1.2.2.2.2.2.2.2.1,(eS (aI d) level text).1.2.2.2.2.2.2.2.2.1,(eS (aI d) level text).1.2.2.2.2.2.2.2.2.2.1,(eS (aI d) level text).1.2.2.2.2.2.2.2.2.2.2.1,(eS (aI d) level text).1.2.2.2.2.2.2.2.2.2.2.2.1,(eS (aI d) level text).1.2.2.2.2.2.2.2.2.2.2.2.2.1,(eS (aI d) level text).1.2.2.2.2.2.2.2.2.2.2.2.2.2.1,(eS (aI d) level text).1.2.2.2.2.2.2.2.2.2.2.2.2.2.2.1,(eS (aI d) level text).1.2.2.2.2.2.2.2.2.2.2.2.2.2.2.2.1,(eS (aI d) level text).2,()):=XJ (aI d) level text (Nat.le_trans (XK d) h);unfold qq v8 bP jU;delta cV bA;simp only [k1,k2,p1,p2,s.1,s.2,Option.bind_some];generalize eS (aI d) level text=q;obtain ⟨m',b⟩:=q
 cases jd d
 ·cases d.2.1
  ·cases decide (d.2.2.2.2.2.2.2.2.2.2.2.2.2.2.2.2.2.2.2.1=0)
   ·exact ⟨rfl,rfl⟩
   ·exact ⟨rfl,rfl⟩
  ·exact ⟨rfl,rfl⟩
 ·cases d.2.1
  ·cases decide (d.2.2.2.2.2.2.2.2.2.2.2.2.2.2.2.2.2.2.2.1=0)
   ·cases b
    ·exact ⟨rfl,rfl⟩
    ·exact ⟨rfl,rfl⟩
   ·exact ⟨rfl,rfl⟩
  ·exact ⟨rfl,rfl⟩
end Go.TM
set_option linter.unusedSimpArgs false
set_option linter.unusedVariables false
namespace Go.TM
open Go
theorem XL (d:bZ):fQ d.2.2.2.2.2.2.2.2.2.2.2.2.2.2.2.2.2.2.2.2.1 d.2.2.2.2.2.2.2.2.2.2.2.2.2.2.2.2.2.2.2.2.2.1=some ((decide (d.2.2.2.2.2.2.2.2.2.2.2.2.2.2.2.2.2.2.2.2.1=0)&&decide (((List.length d.2.2.2.2.2.2.2.2.2.2.2.2.2.2.2.2.2.2.2.2.2.1:Nat):Int)=0)),()):=(uX _ _).1
theorem x4 (d:bZ) (h:ow d≤1048576):ft d.1 d.2.1 d.2.2.1 d.2.2.2.1 d.2.2.2.2.1 d.2.2.2.2.2.1 d.2.2.2.2.2.2.1 d.2.2.2.2.2.2.2.1 d.2.2.2.2.2.2.2.2.1 d.2.2.2.2.2.2.2.2.2.1 d.2.2.2.2.2.2.2.2.2.2.1 d.2.2.2.2.2.2.2.2.2.2.2.1 d.2.2.2.2.2.2.2.2.2.2.2.2.1 d.2.2.2.2.2.2.2.2.2.2.2.2.2.1 d.2.2.2.2.2.2.2.2.2.2.2.2.2.2.1 d.2.2.2.2.2.2.2.2.2.2.2.2.2.2.2.1 d.2.2.2.2.2.2.2.2.2.2.2.2.2.2.2.2.1 d.2.2.2.2.2.2.2.2.2.2.2.2.2.2.2.2.2.1 d.2.2.2.2.2.2.2.2.2.2.2.2.2.2.2.2.2.2.1 d.2.2.2.2.2.2.2.2.2.2.2.2.2.2.2.2.2.2.2.1 d.2.2.2.2.2.2.2.2.2.2.2.2.2.2.2.2.2.2.2.2.1 d.2.2.2.2.2.2.2.2.2.2.2.2.2.2.2.2.2.2.2.2.2.1 d.2.2.2.2.2.2.2.2.2.2.2.2.2.2.2.2.2.2.2.2.2.2.1 d.2.2.2.2.2.2.2.2.2.2.2.2.2.2.2.2.2.2.2.2.2.2.2.1=some ((jd d&&(!d.2.1&&(decide (0<d.2.2.2.2.2.2.2.2.2.2.2.2.2.2.2.2.2.2.2.1)&&decide (d.2.2.2.2.2.2.2.2.2.2.2.2.2.2.2.2.2.2.2.2.1=0)))),()):=by
 obtain ⟨k1,_,k3⟩:=j6 d h;unfold ft;simp only [k1,XL,Option.bind_some]
 cases hb:jd d
 ·rfl
 have q:=k3.1 hb
 cases hd:d.2.1
 ·by_cases ho:0<d.2.2.2.2.2.2.2.2.2.2.2.2.2.2.2.2.2.2.2.1
  ·rw [ak ho];rcases q.nT with j | j
   ·rw [j.1,j.2.1];rfl
   ·have:¬d.2.2.2.2.2.2.2.2.2.2.2.2.2.2.2.2.2.2.2.2.1=0:=by have:=j.1.1.1;omega
    rw [aq this];rfl
  ·rw [aq ho];rfl
 ·rfl
theorem Ow (c:Int) (xs:dC) (h:xs.length≤1048576) (hr:js c xs):po c xs=some (c,1,0,0,0,[],())∧pw c xs=some (c,1,0,0,0,[],()):=by
 obtain ⟨k1,k2,k3⟩:=ou c xs h;unfold po pw;rw [k1,k2,k3.2 hr];exact ⟨rfl,rfl⟩
theorem Ei (d:bZ) (h:ow d≤1048576):∃(t:lT) (b:Bool),n8 d.1 d.2.1 d.2.2.1 d.2.2.2.1 d.2.2.2.2.1 d.2.2.2.2.2.1 d.2.2.2.2.2.2.1 d.2.2.2.2.2.2.2.1 d.2.2.2.2.2.2.2.2.1 d.2.2.2.2.2.2.2.2.2.1 d.2.2.2.2.2.2.2.2.2.2.1 d.2.2.2.2.2.2.2.2.2.2.2.1 d.2.2.2.2.2.2.2.2.2.2.2.2.1 d.2.2.2.2.2.2.2.2.2.2.2.2.2.1 d.2.2.2.2.2.2.2.2.2.2.2.2.2.2.1 d.2.2.2.2.2.2.2.2.2.2.2.2.2.2.2.1 d.2.2.2.2.2.2.2.2.2.2.2.2.2.2.2.2.1 d.2.2.2.2.2.2.2.2.2.2.2.2.2.2.2.2.2.1 d.2.2.2.2.2.2.2.2.2.2.2.2.2.2.2.2.2.2.1 d.2.2.2.2.2.2.2.2.2.2.2.2.2.2.2.2.2.2.2.1 d.2.2.2.2.2.2.2.2.2.2.2.2.2.2.2.2.2.2.2.2.1 d.2.2.2.2.2.2.2.2.2.2.2.2.2.2.2.2.2.2.2.2.2.1 d.2.2.2.2.2.2.2.2.2.2.2.2.2.2.2.2.2.2.2.2.2.2.1 d.2.2.2.2.2.2.2.2.2.2.2.2.2.2.2.2.2.2.2.2.2.2.2.1=some (t.1,t.2.1,t.2.2.1,t.2.2.2.1,t.2.2.2.2.1,t.2.2.2.2.2.1,b,())∧mn d.1 d.2.1 d.2.2.1 d.2.2.2.1 d.2.2.2.2.1 d.2.2.2.2.2.1 d.2.2.2.2.2.2.1 d.2.2.2.2.2.2.2.1 d.2.2.2.2.2.2.2.2.1 d.2.2.2.2.2.2.2.2.2.1 d.2.2.2.2.2.2.2.2.2.2.1 d.2.2.2.2.2.2.2.2.2.2.2.1 d.2.2.2.2.2.2.2.2.2.2.2.2.1 d.2.2.2.2.2.2.2.2.2.2.2.2.2.1 d.2.2.2.2.2.2.2.2.2.2.2.2.2.2.1 d.2.2.2.2.2.2.2.2.2.2.2.2.2.2.2.1 d.2.2.2.2.2.2.2.2.2.2.2.2.2.2.2.2.1 d.2.2.2.2.2.2.2.2.2.2.2.2.2.2.2.2.2.1 d.2.2.2.2.2.2.2.2.2.2.2.2.2.2.2.2.2.2.1 d.2.2.2.2.2.2.2.2.2.2.2.2.2.2.2.2.2.2.2.1 d.2.2.2.2.2.2.2.2.2.2.2.2.2.2.2.2.2.2.2.2.1 d.2.2.2.2.2.2.2.2.2.2.2.2.2.2.2.2.2.2.2.2.2.1 d.2.2.2.2.2.2.2.2.2.2.2.2.2.2.2.2.2.2.2.2.2.2.1 d.2.2.2.2.2.2.2.2.2.2.2.2.2.2.2.2.2.2.2.2.2.2.2.1=some (t.1,t.2.1,t.2.2.1,t.2.2.2.1,t.2.2.2.2.1,t.2.2.2.2.2.1,b,())∧t.2.2.2.2.2.1=[]:=by
 obtain ⟨k1,k2,k3⟩:=j6 d h;have hi:=x4 d h;unfold n8 mn;delta bA;simp only [hi,k2,Option.bind_some];have zero:(∃(t:lT) (b:Bool),some ((0:Int),(0:Int),(0:Int),(0:Int),(0:Int),([]:dC),false,())=some (t.1,t.2.1,t.2.2.1,t.2.2.2.1,t.2.2.2.2.1,t.2.2.2.2.2.1,b,())∧some ((0:Int),(0:Int),(0:Int),(0:Int),(0:Int),([]:dC),false,())=some (t.1,t.2.1,t.2.2.1,t.2.2.2.1,t.2.2.2.2.1,t.2.2.2.2.2.1,b,())∧t.2.2.2.2.2.1=[]):=⟨(0,0,0,0,0,[],()),false,rfl,rfl,rfl⟩
 cases hd:d.2.1
 case true=>
  cases jd d<;>exact zero
 by_cases ho:0<d.2.2.2.2.2.2.2.2.2.2.2.2.2.2.2.2.2.2.2.1
 case neg=>
  rw [aq ho,ak (show d.2.2.2.2.2.2.2.2.2.2.2.2.2.2.2.2.2.2.2.1≤0 by omega)]
  cases jd d<;>exact zero
 rw [ak ho,aq (show ¬d.2.2.2.2.2.2.2.2.2.2.2.2.2.2.2.2.2.2.2.1≤0 by omega)]
 by_cases hj:d.2.2.2.2.2.2.2.2.2.2.2.2.2.2.2.2.2.2.2.2.1=0
 case neg=>
  rw [aq hj]
  cases jd d<;>exact zero
 rw [ak hj]
 cases hb:jd d
 ·cases decide (d.2.2.2.2.2.2.2.2.1=0)
  ·exact zero
  ·exact zero
 have q:=k3.1 hb;have hm:rb (aI d):=by
  rcases q.tM with m | m
  ·have h1:d.2.2.2.1=0:=m.2.1;have h2:=q.old.1;omega
  ·exact m.1
 have hr:js d.2.2.2.1 d.2.2.2.2.1:=hm.ring;unfold ow at h;obtain ⟨f1,f2⟩:=Ow d.2.2.2.1 d.2.2.2.2.1 (by omega) hr;have hl:0<(d.2.2.2.2.1).length:=by have:=hr.2.1;omega
 have lO:¬((List.length d.2.2.2.2.1:Nat):Int)=0:=by omega
 rw [f1,f2,List.getElem?_eq_getElem hl,aq lO];simp only [Option.bind_some,Bool.not_true,Bool.not_false,Bool.and_true,cond_true,cond_false]
 by_cases h8:d.2.2.2.2.2.2.2.2.1=0
 ·rw [ak h8]
  by_cases h0:((d.2.2.2.2.1)[0]).1=d.1
  ·rw [ak h0];exact ⟨(d.2.2.2.1,1,0,0,0,[],()),true,rfl,rfl,rfl⟩
  ·rw [aq h0];exact zero
 ·rw [aq h8]
  by_cases h0:((d.2.2.2.2.1)[0]).1=d.1
  ·rw [ak h0];exact zero
  ·rw [aq h0];exact zero
end Go.TM
set_option linter.unusedSimpArgs false
set_option linter.unusedVariables false
namespace Go.TM
open Go
def zG (xs:aV) (s:Int):dY:=((qR (fx xs s)).1,(qR (fx xs s)).2.1,(qR (fx xs s)).2.2.1,(qR (fx xs s)).2.2.2.1,())
def jn (xs:aV) (h:Int) (k:Nat):aV:=(List.range k).map fun j=>zG xs (h+((j+1:Nat):Int))
theorem zH (xs:aV) (h:Int) (k:Nat):(jn xs h k).length=k:=by simp [jn]
theorem wV (xs:aV) (h:Int) (k:Nat):jn xs h (k+1)=jn xs h k++[zG xs (h+((k+1:Nat):Int))]:=by
 unfold jn;rw [List.range_succ,List.map_append];rfl
theorem Ms {xs:aV} {s:Int} (h:fh xs xs.length):ByteArray.size (zG xs s).2.2.2.1≤60:=by
 show ByteArray.size (qR (fx xs s)).2.2.2.1≤60
 cases e:fx xs s with
 |none=>exact Nat.zero_le _
 |some r=>
  obtain ⟨k,hk,rfl⟩:=List.mem_iff_getElem.1 (CW e).1;exact (h k hk hk).1.2.2.2
theorem Ox {xs:aV} {h:Int} {k:Nat} (hi:fh xs xs.length):wl dJ (jn xs h k)≤60*k:=by
 have:=La dJ 60 (jn xs h k) (fun x hx=>by
  unfold jn at hx;obtain ⟨j,_,rfl⟩:=List.mem_map.1 hx;exact Ms hi)
 rwa [zH] at this
def Bp (xs:aV) (line s:Int):Prop:=(zG xs s).2.2.1=2∧line<(zG xs s).1
theorem Oy (m:jc) (h0:mq m≤1048576):∃(k:Nat) (v:Int),oa m.1 m.2.1 m.2.2.1 m.2.2.2.1 m.2.2.2.2.1 m.2.2.2.2.2.1 m.2.2.2.2.2.2.1 m.2.2.2.2.2.2.2.1 m.2.2.2.2.2.2.2.2.1 m.2.2.2.2.2.2.2.2.2.1 m.2.2.2.2.2.2.2.2.2.2.1 m.2.2.2.2.2.2.2.2.2.2.2.1 m.2.2.2.2.2.2.2.2.2.2.2.2.1 m.2.2.2.2.2.2.2.2.2.2.2.2.2.1 m.2.2.2.2.2.2.2.2.2.2.2.2.2.2.1 m.2.2.2.2.2.2.2.2.2.2.2.2.2.2.2.1=some (m.1,m.2.1,m.2.2.1,m.2.2.2.1,m.2.2.2.2.1,m.2.2.2.2.2.1,m.2.2.2.2.2.2.1,m.2.2.2.2.2.2.2.1,m.2.2.2.2.2.2.2.2.1,v,m.2.2.2.2.2.2.2.2.2.2.1,m.2.2.2.2.2.2.2.2.2.2.2.1,m.2.2.2.2.2.2.2.2.2.2.2.2.1,m.2.2.2.2.2.2.2.2.2.2.2.2.2.1,m.2.2.2.2.2.2.2.2.2.2.2.2.2.2.1,m.2.2.2.2.2.2.2.2.2.2.2.2.2.2.2.1,jn m.2.2.2.1 m.2.2.2.2.2.2.2.2.2.1 k,())∧pR m.1 m.2.1 m.2.2.1 m.2.2.2.1 m.2.2.2.2.1 m.2.2.2.2.2.1 m.2.2.2.2.2.2.1 m.2.2.2.2.2.2.2.1 m.2.2.2.2.2.2.2.2.1 m.2.2.2.2.2.2.2.2.2.1 m.2.2.2.2.2.2.2.2.2.2.1 m.2.2.2.2.2.2.2.2.2.2.2.1 m.2.2.2.2.2.2.2.2.2.2.2.2.1 m.2.2.2.2.2.2.2.2.2.2.2.2.2.1 m.2.2.2.2.2.2.2.2.2.2.2.2.2.2.1 m.2.2.2.2.2.2.2.2.2.2.2.2.2.2.2.1=some (m.1,m.2.1,m.2.2.1,m.2.2.2.1,m.2.2.2.2.1,m.2.2.2.2.2.1,m.2.2.2.2.2.2.1,m.2.2.2.2.2.2.2.1,m.2.2.2.2.2.2.2.2.1,v,m.2.2.2.2.2.2.2.2.2.2.1,m.2.2.2.2.2.2.2.2.2.2.2.1,m.2.2.2.2.2.2.2.2.2.2.2.2.1,m.2.2.2.2.2.2.2.2.2.2.2.2.2.1,m.2.2.2.2.2.2.2.2.2.2.2.2.2.2.1,m.2.2.2.2.2.2.2.2.2.2.2.2.2.2.2.1,jn m.2.2.2.1 m.2.2.2.2.2.2.2.2.2.1 k,())∧v=m.2.2.2.2.2.2.2.2.2.1+((k:Nat):Int)∧
  (uH m=false→k=0)∧(uH m=true→v≤((dH m.2.2.2.1:Nat):Int)∧(∀j,j<k→¬Bp m.2.2.2.1 m.2.2.2.2.2.2.2.2.1 (m.2.2.2.2.2.2.2.2.2.1+((j+1:Nat):Int)))∧(v<((dH m.2.2.2.1:Nat):Int)→Bp m.2.2.2.1 m.2.2.2.2.2.2.2.2.1 (m.2.2.2.2.2.2.2.2.2.1+((k+1:Nat):Int)))):=by
 obtain ⟨k1,k2,k3⟩:=tL m h0;obtain ⟨p1,p2⟩:=nS m.1 m.2.1 m.2.2.1 m.2.2.2.1 m.2.2.2.2.1 m.2.2.2.2.2.1 m.2.2.2.2.2.2.1 m.2.2.2.2.2.2.2.1 m.2.2.2.2.2.2.2.2.1 m.2.2.2.2.2.2.2.2.2.1 m.2.2.2.2.2.2.2.2.2.2.1 m.2.2.2.2.2.2.2.2.2.2.2.1 m.2.2.2.2.2.2.2.2.2.2.2.2.1 m.2.2.2.2.2.2.2.2.2.2.2.2.2.1 m.2.2.2.2.2.2.2.2.2.2.2.2.2.2.1 m.2.2.2.2.2.2.2.2.2.2.2.2.2.2.2.1 h0;unfold oa pR;delta cV;simp only [k1,k2,p1,p2,Option.bind_some]
 cases hb:uH m
 ·exact ⟨0,m.2.2.2.2.2.2.2.2.2.1,rfl,rfl,by omega,(fun _=>rfl),(fun h=>by cases h)⟩
 have hm:=k3.1 hb;have Un:=dD m.2.2.2.1 hm.items;have hl:m.2.2.2.1.length≤1048576:=by omega
 obtain ⟨a1,a2,a3⟩:=zA m.2.2.2.1 hl;have hh:=hm.heard;generalize hn:dH m.2.2.2.1=n at a1 a2 a3 hh;have awn:n≤60:=Nat.le_trans a3.1 Un.1;obtain ⟨e,f,g1,g2,k,v,g3,g4,g5,g6,g7,g8⟩:∃e f,aJ qE (m.1,m.2.1,m.2.2.1,m.2.2.2.1,m.2.2.2.2.1,m.2.2.2.2.2.1,m.2.2.2.2.2.2.1,m.2.2.2.2.2.2.2.1,m.2.2.2.2.2.2.2.2.1,m.2.2.2.2.2.2.2.2.2.1,m.2.2.2.2.2.2.2.2.2.2.1,m.2.2.2.2.2.2.2.2.2.2.2.1,m.2.2.2.2.2.2.2.2.2.2.2.2.1,m.2.2.2.2.2.2.2.2.2.2.2.2.2.1,m.2.2.2.2.2.2.2.2.2.2.2.2.2.2.1,m.2.2.2.2.2.2.2.2.2.2.2.2.2.2.2.1,(0:Int),(0:Int),[],[],[],[],(0:Int),(0:Int),(0:Int),(0:Int),(0:Int),(0:Int),(0:Int),(0:Int),(0:Int),[],m.1,m.2.1,m.2.2.1,m.2.2.2.1,m.2.2.2.2.1,m.2.2.2.2.2.1,m.2.2.2.2.2.2.1,m.2.2.2.2.2.2.2.1,m.2.2.2.2.2.2.2.2.1,m.2.2.2.2.2.2.2.2.2.1,m.2.2.2.2.2.2.2.2.2.2.1,m.2.2.2.2.2.2.2.2.2.2.2.1,m.2.2.2.2.2.2.2.2.2.2.2.2.1,m.2.2.2.2.2.2.2.2.2.2.2.2.2.1,m.2.2.2.2.2.2.2.2.2.2.2.2.2.2.1,m.2.2.2.2.2.2.2.2.2.2.2.2.2.2.2.1,[],((n:Nat):Int),())=some e∧aJ qO (m.1,m.2.1,m.2.2.1,m.2.2.2.1,m.2.2.2.2.1,m.2.2.2.2.2.1,m.2.2.2.2.2.2.1,m.2.2.2.2.2.2.2.1,m.2.2.2.2.2.2.2.2.1,m.2.2.2.2.2.2.2.2.2.1,m.2.2.2.2.2.2.2.2.2.2.1,m.2.2.2.2.2.2.2.2.2.2.2.1,m.2.2.2.2.2.2.2.2.2.2.2.2.1,m.2.2.2.2.2.2.2.2.2.2.2.2.2.1,m.2.2.2.2.2.2.2.2.2.2.2.2.2.2.1,m.2.2.2.2.2.2.2.2.2.2.2.2.2.2.2.1,(0:Int),(0:Int),[],[],[],[],(0:Int),(0:Int),(0:Int),(0:Int),(0:Int),(0:Int),(0:Int),(0:Int),(0:Int),[],m.1,m.2.1,m.2.2.1,m.2.2.2.1,m.2.2.2.2.1,m.2.2.2.2.2.1,m.2.2.2.2.2.2.1,m.2.2.2.2.2.2.2.1,m.2.2.2.2.2.2.2.2.1,m.2.2.2.2.2.2.2.2.2.1,m.2.2.2.2.2.2.2.2.2.2.1,m.2.2.2.2.2.2.2.2.2.2.2.1,m.2.2.2.2.2.2.2.2.2.2.2.2.1,m.2.2.2.2.2.2.2.2.2.2.2.2.2.1,m.2.2.2.2.2.2.2.2.2.2.2.2.2.2.1,m.2.2.2.2.2.2.2.2.2.2.2.2.2.2.2.1,[],())=some f∧
   ∃(k:Nat) (v:Int),(e=.inl ((0:Int),(0:Int),[],[],[],[],(0:Int),(0:Int),(0:Int),(0:Int),(0:Int),(0:Int),(0:Int),(0:Int),(0:Int),[],m.1,m.2.1,m.2.2.1,m.2.2.2.1,m.2.2.2.2.1,m.2.2.2.2.2.1,m.2.2.2.2.2.2.1,m.2.2.2.2.2.2.2.1,m.2.2.2.2.2.2.2.2.1,v,m.2.2.2.2.2.2.2.2.2.2.1,m.2.2.2.2.2.2.2.2.2.2.2.1,m.2.2.2.2.2.2.2.2.2.2.2.2.1,m.2.2.2.2.2.2.2.2.2.2.2.2.2.1,m.2.2.2.2.2.2.2.2.2.2.2.2.2.2.1,m.2.2.2.2.2.2.2.2.2.2.2.2.2.2.2.1,jn m.2.2.2.1 m.2.2.2.2.2.2.2.2.2.1 k,())∨e=.inr (m.1,m.2.1,m.2.2.1,m.2.2.2.1,m.2.2.2.2.1,m.2.2.2.2.2.1,m.2.2.2.2.2.2.1,m.2.2.2.2.2.2.2.1,m.2.2.2.2.2.2.2.2.1,v,m.2.2.2.2.2.2.2.2.2.2.1,m.2.2.2.2.2.2.2.2.2.2.2.1,m.2.2.2.2.2.2.2.2.2.2.2.2.1,m.2.2.2.2.2.2.2.2.2.2.2.2.2.1,m.2.2.2.2.2.2.2.2.2.2.2.2.2.2.1,m.2.2.2.2.2.2.2.2.2.2.2.2.2.2.2.1,jn m.2.2.2.1 m.2.2.2.2.2.2.2.2.2.1 k,()))∧f=.inl ((0:Int),(0:Int),[],[],[],[],(0:Int),(0:Int),(0:Int),(0:Int),(0:Int),(0:Int),(0:Int),(0:Int),(0:Int),[],m.1,m.2.1,m.2.2.1,m.2.2.2.1,m.2.2.2.2.1,m.2.2.2.2.2.1,m.2.2.2.2.2.2.1,m.2.2.2.2.2.2.2.1,m.2.2.2.2.2.2.2.2.1,v,m.2.2.2.2.2.2.2.2.2.2.1,m.2.2.2.2.2.2.2.2.2.2.2.1,m.2.2.2.2.2.2.2.2.2.2.2.2.1,m.2.2.2.2.2.2.2.2.2.2.2.2.2.1,m.2.2.2.2.2.2.2.2.2.2.2.2.2.2.1,m.2.2.2.2.2.2.2.2.2.2.2.2.2.2.2.1,jn m.2.2.2.1 m.2.2.2.2.2.2.2.2.2.1 k,())∧v=m.2.2.2.2.2.2.2.2.2.1+((k:Nat):Int)∧v≤((n:Nat):Int)∧
    (∀j,j<k→¬Bp m.2.2.2.1 m.2.2.2.2.2.2.2.2.1 (m.2.2.2.2.2.2.2.2.2.1+((j+1:Nat):Int)))∧(v<((n:Nat):Int)→Bp m.2.2.2.1 m.2.2.2.2.2.2.2.2.1 (m.2.2.2.2.2.2.2.2.2.1+((k+1:Nat):Int))):=by
  refine qj 60 (fun k x y=>∃v:Int,x=(m.1,m.2.1,m.2.2.1,m.2.2.2.1,m.2.2.2.2.1,m.2.2.2.2.2.1,m.2.2.2.2.2.2.1,m.2.2.2.2.2.2.2.1,m.2.2.2.2.2.2.2.2.1,m.2.2.2.2.2.2.2.2.2.1,m.2.2.2.2.2.2.2.2.2.2.1,m.2.2.2.2.2.2.2.2.2.2.2.1,m.2.2.2.2.2.2.2.2.2.2.2.2.1,m.2.2.2.2.2.2.2.2.2.2.2.2.2.1,m.2.2.2.2.2.2.2.2.2.2.2.2.2.2.1,m.2.2.2.2.2.2.2.2.2.2.2.2.2.2.2.1,(0:Int),(0:Int),[],[],[],[],(0:Int),(0:Int),(0:Int),(0:Int),(0:Int),(0:Int),(0:Int),(0:Int),(0:Int),[],m.1,m.2.1,m.2.2.1,m.2.2.2.1,m.2.2.2.2.1,m.2.2.2.2.2.1,m.2.2.2.2.2.2.1,m.2.2.2.2.2.2.2.1,m.2.2.2.2.2.2.2.2.1,v,m.2.2.2.2.2.2.2.2.2.2.1,m.2.2.2.2.2.2.2.2.2.2.2.1,m.2.2.2.2.2.2.2.2.2.2.2.2.1,m.2.2.2.2.2.2.2.2.2.2.2.2.2.1,m.2.2.2.2.2.2.2.2.2.2.2.2.2.2.1,m.2.2.2.2.2.2.2.2.2.2.2.2.2.2.2.1,jn m.2.2.2.1 m.2.2.2.2.2.2.2.2.2.1 k,((n:Nat):Int),())∧y=(m.1,m.2.1,m.2.2.1,m.2.2.2.1,m.2.2.2.2.1,m.2.2.2.2.2.1,m.2.2.2.2.2.2.1,m.2.2.2.2.2.2.2.1,m.2.2.2.2.2.2.2.2.1,m.2.2.2.2.2.2.2.2.2.1,m.2.2.2.2.2.2.2.2.2.2.1,m.2.2.2.2.2.2.2.2.2.2.2.1,m.2.2.2.2.2.2.2.2.2.2.2.2.1,m.2.2.2.2.2.2.2.2.2.2.2.2.2.1,m.2.2.2.2.2.2.2.2.2.2.2.2.2.2.1,m.2.2.2.2.2.2.2.2.2.2.2.2.2.2.2.1,(0:Int),(0:Int),[],[],[],[],(0:Int),(0:Int),(0:Int),(0:Int),(0:Int),(0:Int),(0:Int),(0:Int),(0:Int),[],m.1,m.2.1,m.2.2.1,m.2.2.2.1,m.2.2.2.2.1,m.2.2.2.2.2.1,m.2.2.2.2.2.2.1,m.2.2.2.2.2.2.2.1,m.2.2.2.2.2.2.2.2.1,v,m.2.2.2.2.2.2.2.2.2.2.1,m.2.2.2.2.2.2.2.2.2.2.2.1,m.2.2.2.2.2.2.2.2.2.2.2.2.1,m.2.2.2.2.2.2.2.2.2.2.2.2.2.1,m.2.2.2.2.2.2.2.2.2.2.2.2.2.2.1,m.2.2.2.2.2.2.2.2.2.2.2.2.2.2.2.1,jn m.2.2.2.1 m.2.2.2.2.2.2.2.2.2.1 k,())∧v=m.2.2.2.2.2.2.2.2.2.1+((k:Nat):Int)∧v≤((n:Nat):Int)∧∀j,j<k→¬Bp m.2.2.2.1 m.2.2.2.2.2.2.2.2.1 (m.2.2.2.2.2.2.2.2.2.1+((j+1:Nat):Int))) _ ?_ ⟨m.2.2.2.2.2.2.2.2.2.1,rfl,rfl,by omega,hh.2,fun j h=>by omega⟩
  rintro k x y hk ⟨v,rfl,rfl,q1,q2,q3⟩
  by_cases dM:v<((n:Nat):Int)
  ·have hw:IntKind.i64.wrap (v+(1:Int))=m.2.2.2.2.2.2.2.2.2.1+((k+1:Nat):Int):=by rw [cD]<;>omega
   have hbl:Nat.ble (((jn m.2.2.2.1 m.2.2.2.2.2.2.2.2.2.1 k).length+1)*40) lim=true:=aT (by rw [zH];unfold lim;omega);have more:¬Bp m.2.2.2.1 m.2.2.2.2.2.2.2.2.1 (m.2.2.2.2.2.2.2.2.2.1+((k+1:Nat):Int))→∀j,j<k+1→¬Bp m.2.2.2.1 m.2.2.2.2.2.2.2.2.1 (m.2.2.2.2.2.2.2.2.2.1+((j+1:Nat):Int)):=fun hnw j hj=>by
    by_cases e:j<k
    ·exact q3 j e
    ·have:j=k:=by omega
     subst this;exact hnw
   simp only [qE,az,yE,aA,qO,az,zu,aA,ak dM,a2,hw,wR m.2.2.2.1 _ hl,wS m.2.2.2.1 _ hl,Option.bind_some,cond_true,hbl]
   by_cases c1:(qR (fx m.2.2.2.1 (m.2.2.2.2.2.2.2.2.2.1+((k+1:Nat):Int)))).2.2.1=2
   ·rw [ak c1]
    by_cases c2:m.2.2.2.2.2.2.2.2.1<(qR (fx m.2.2.2.1 (m.2.2.2.2.2.2.2.2.2.1+((k+1:Nat):Int)))).1
    ·rw [ak c2];exact .inl ⟨_,_,rfl,rfl,k,v,.inr rfl,rfl,q1,q2,q3,fun _=>⟨c1,c2⟩⟩
    ·rw [aq c2];exact .inr ⟨by omega,_,_,rfl,rfl,m.2.2.2.2.2.2.2.2.2.1+((k+1:Nat):Int),by rw [wV];rfl,by rw [wV];rfl,rfl,by omega,more fun h=>c2 h.2⟩
   ·rw [aq c1];exact .inr ⟨by omega,_,_,rfl,rfl,m.2.2.2.2.2.2.2.2.2.1+((k+1:Nat):Int),by rw [wV];rfl,by rw [wV];rfl,rfl,by omega,more fun h=>c1 h.1⟩
  ·simp only [qE,az,yE,aA,qO,az,zu,aA,aq dM,a2,Option.bind_some,cond_false];exact .inl ⟨_,_,rfl,rfl,k,v,.inl rfl,rfl,q1,q2,q3,fun h=>absurd h dM⟩
 simp only [a1,Option.bind_some,Bool.not_true,cond_false];rw [g1,g2,g4];refine ⟨k,v,?_,rfl,g5,(fun h=>by cases h),(fun _=>⟨by first | exact g6 | (rw [hn];exact g6),g7,fun h=>g8 (by first | exact h | (rw [hn] at h;exact h))⟩)⟩;rcases g3 with rfl | rfl
 ·rfl
 ·rfl
end Go.TM
set_option linter.unusedSimpArgs false
set_option linter.unusedVariables false
namespace Go.TM
open Go
noncomputable def cz (m:jc):jc×aV:=match oa m.1 m.2.1 m.2.2.1 m.2.2.2.1 m.2.2.2.2.1 m.2.2.2.2.2.1 m.2.2.2.2.2.2.1 m.2.2.2.2.2.2.2.1 m.2.2.2.2.2.2.2.2.1 m.2.2.2.2.2.2.2.2.2.1 m.2.2.2.2.2.2.2.2.2.2.1 m.2.2.2.2.2.2.2.2.2.2.2.1 m.2.2.2.2.2.2.2.2.2.2.2.2.1 m.2.2.2.2.2.2.2.2.2.2.2.2.2.1 m.2.2.2.2.2.2.2.2.2.2.2.2.2.2.1 m.2.2.2.2.2.2.2.2.2.2.2.2.2.2.2.1 with
 |some x=>((x.1,x.2.1,x.2.2.1,x.2.2.2.1,x.2.2.2.2.1,x.2.2.2.2.2.1,x.2.2.2.2.2.2.1,x.2.2.2.2.2.2.2.1,x.2.2.2.2.2.2.2.2.1,x.2.2.2.2.2.2.2.2.2.1,x.2.2.2.2.2.2.2.2.2.2.1,x.2.2.2.2.2.2.2.2.2.2.2.1,x.2.2.2.2.2.2.2.2.2.2.2.2.1,x.2.2.2.2.2.2.2.2.2.2.2.2.2.1,x.2.2.2.2.2.2.2.2.2.2.2.2.2.2.1,x.2.2.2.2.2.2.2.2.2.2.2.2.2.2.2.1,()),x.2.2.2.2.2.2.2.2.2.2.2.2.2.2.2.2.1)
 |none=>(m,[])
theorem R3 (m:jc) (h0:mq m≤1048576):∃(k:Nat) (v:Int),cz m=((m.1,m.2.1,m.2.2.1,m.2.2.2.1,m.2.2.2.2.1,m.2.2.2.2.2.1,m.2.2.2.2.2.2.1,m.2.2.2.2.2.2.2.1,m.2.2.2.2.2.2.2.2.1,v,m.2.2.2.2.2.2.2.2.2.2.1,m.2.2.2.2.2.2.2.2.2.2.2.1,m.2.2.2.2.2.2.2.2.2.2.2.2.1,m.2.2.2.2.2.2.2.2.2.2.2.2.2.1,m.2.2.2.2.2.2.2.2.2.2.2.2.2.2.1,m.2.2.2.2.2.2.2.2.2.2.2.2.2.2.2.1,()),jn m.2.2.2.1 m.2.2.2.2.2.2.2.2.2.1 k)∧oa m.1 m.2.1 m.2.2.1 m.2.2.2.1 m.2.2.2.2.1 m.2.2.2.2.2.1 m.2.2.2.2.2.2.1 m.2.2.2.2.2.2.2.1 m.2.2.2.2.2.2.2.2.1 m.2.2.2.2.2.2.2.2.2.1 m.2.2.2.2.2.2.2.2.2.2.1 m.2.2.2.2.2.2.2.2.2.2.2.1 m.2.2.2.2.2.2.2.2.2.2.2.2.1 m.2.2.2.2.2.2.2.2.2.2.2.2.2.1 m.2.2.2.2.2.2.2.2.2.2.2.2.2.2.1 m.2.2.2.2.2.2.2.2.2.2.2.2.2.2.2.1=some (m.1,m.2.1,m.2.2.1,m.2.2.2.1,m.2.2.2.2.1,m.2.2.2.2.2.1,m.2.2.2.2.2.2.1,m.2.2.2.2.2.2.2.1,m.2.2.2.2.2.2.2.2.1,v,m.2.2.2.2.2.2.2.2.2.2.1,m.2.2.2.2.2.2.2.2.2.2.2.1,m.2.2.2.2.2.2.2.2.2.2.2.2.1,m.2.2.2.2.2.2.2.2.2.2.2.2.2.1,m.2.2.2.2.2.2.2.2.2.2.2.2.2.2.1,m.2.2.2.2.2.2.2.2.2.2.2.2.2.2.2.1,jn m.2.2.2.1 m.2.2.2.2.2.2.2.2.2.1 k,())∧pR m.1 m.2.1 m.2.2.1 m.2.2.2.1 m.2.2.2.2.1 m.2.2.2.2.2.1 m.2.2.2.2.2.2.1 m.2.2.2.2.2.2.2.1 m.2.2.2.2.2.2.2.2.1 m.2.2.2.2.2.2.2.2.2.1 m.2.2.2.2.2.2.2.2.2.2.1 m.2.2.2.2.2.2.2.2.2.2.2.1 m.2.2.2.2.2.2.2.2.2.2.2.2.1 m.2.2.2.2.2.2.2.2.2.2.2.2.2.1 m.2.2.2.2.2.2.2.2.2.2.2.2.2.2.1 m.2.2.2.2.2.2.2.2.2.2.2.2.2.2.2.1=some (m.1,m.2.1,m.2.2.1,m.2.2.2.1,m.2.2.2.2.1,m.2.2.2.2.2.1,m.2.2.2.2.2.2.1,m.2.2.2.2.2.2.2.1,m.2.2.2.2.2.2.2.2.1,v,m.2.2.2.2.2.2.2.2.2.2.1,m.2.2.2.2.2.2.2.2.2.2.2.1,m.2.2.2.2.2.2.2.2.2.2.2.2.1,m.2.2.2.2.2.2.2.2.2.2.2.2.2.1,m.2.2.2.2.2.2.2.2.2.2.2.2.2.2.1,m.2.2.2.2.2.2.2.2.2.2.2.2.2.2.2.1,jn m.2.2.2.1 m.2.2.2.2.2.2.2.2.2.1 k,())∧v=m.2.2.2.2.2.2.2.2.2.1+((k:Nat):Int)∧
  (uH m=false→k=0)∧(uH m=true→v≤((dH m.2.2.2.1:Nat):Int)∧(∀j,j<k→¬Bp m.2.2.2.1 m.2.2.2.2.2.2.2.2.1 (m.2.2.2.2.2.2.2.2.2.1+((j+1:Nat):Int)))∧(v<((dH m.2.2.2.1:Nat):Int)→Bp m.2.2.2.1 m.2.2.2.2.2.2.2.2.1 (m.2.2.2.2.2.2.2.2.2.1+((k+1:Nat):Int)))):=by
 obtain ⟨k,v,h1,h2,h3⟩:=Oy m h0;exact ⟨k,v,by unfold cz;rw [h1],h1,h2,h3⟩
theorem Uo (m:jc) (h0:mq m≤1048576):oa m.1 m.2.1 m.2.2.1 m.2.2.2.1 m.2.2.2.2.1 m.2.2.2.2.2.1 m.2.2.2.2.2.2.1 m.2.2.2.2.2.2.2.1 m.2.2.2.2.2.2.2.2.1 m.2.2.2.2.2.2.2.2.2.1 m.2.2.2.2.2.2.2.2.2.2.1 m.2.2.2.2.2.2.2.2.2.2.2.1 m.2.2.2.2.2.2.2.2.2.2.2.2.1 m.2.2.2.2.2.2.2.2.2.2.2.2.2.1 m.2.2.2.2.2.2.2.2.2.2.2.2.2.2.1 m.2.2.2.2.2.2.2.2.2.2.2.2.2.2.2.1=some ((cz m).1.1,(cz m).1.2.1,(cz m).1.2.2.1,(cz m).1.2.2.2.1,(cz m).1.2.2.2.2.1,(cz m).1.2.2.2.2.2.1,(cz m).1.2.2.2.2.2.2.1,(cz m).1.2.2.2.2.2.2.2.1,(cz m).1.2.2.2.2.2.2.2.2.1,(cz m).1.2.2.2.2.2.2.2.2.2.1,(cz m).1.2.2.2.2.2.2.2.2.2.2.1,(cz m).1.2.2.2.2.2.2.2.2.2.2.2.1,(cz m).1.2.2.2.2.2.2.2.2.2.2.2.2.1,(cz m).1.2.2.2.2.2.2.2.2.2.2.2.2.2.1,(cz m).1.2.2.2.2.2.2.2.2.2.2.2.2.2.2.1,(cz m).1.2.2.2.2.2.2.2.2.2.2.2.2.2.2.2.1,(cz m).2,())∧pR m.1 m.2.1 m.2.2.1 m.2.2.2.1 m.2.2.2.2.1 m.2.2.2.2.2.1 m.2.2.2.2.2.2.1 m.2.2.2.2.2.2.2.1 m.2.2.2.2.2.2.2.2.1 m.2.2.2.2.2.2.2.2.2.1 m.2.2.2.2.2.2.2.2.2.2.1 m.2.2.2.2.2.2.2.2.2.2.2.1 m.2.2.2.2.2.2.2.2.2.2.2.2.1 m.2.2.2.2.2.2.2.2.2.2.2.2.2.1 m.2.2.2.2.2.2.2.2.2.2.2.2.2.2.1 m.2.2.2.2.2.2.2.2.2.2.2.2.2.2.2.1=some ((cz m).1.1,(cz m).1.2.1,(cz m).1.2.2.1,(cz m).1.2.2.2.1,(cz m).1.2.2.2.2.1,(cz m).1.2.2.2.2.2.1,(cz m).1.2.2.2.2.2.2.1,(cz m).1.2.2.2.2.2.2.2.1,(cz m).1.2.2.2.2.2.2.2.2.1,(cz m).1.2.2.2.2.2.2.2.2.2.1,(cz m).1.2.2.2.2.2.2.2.2.2.2.1,(cz m).1.2.2.2.2.2.2.2.2.2.2.2.1,(cz m).1.2.2.2.2.2.2.2.2.2.2.2.2.1,(cz m).1.2.2.2.2.2.2.2.2.2.2.2.2.2.1,(cz m).1.2.2.2.2.2.2.2.2.2.2.2.2.2.2.1,(cz m).1.2.2.2.2.2.2.2.2.2.2.2.2.2.2.2.1,(cz m).2,()):=by
 obtain ⟨k,v,h1,h2,h3,_⟩:=R3 m h0;rw [h1];exact ⟨h2,h3⟩
theorem Up (m:jc) (h0:mq m≤1048576):mq (cz m).1=mq m∧(cz m).2.length≤60∧wl dJ (cz m).2≤3600:=by
 obtain ⟨k,v,h1,_,_,h4,h5,h6⟩:=R3 m h0;rw [h1];refine ⟨rfl,?_⟩
 cases hb:uH m
 ·rw [h5 hb];exact ⟨Nat.zero_le _,Nat.zero_le _⟩
 ·have hm:=(tL m h0).2.2.1 hb;have Un:=dD _ hm.items;have ha:=(zA m.2.2.2.1 (by omega)).2.2.1;have hh:=hm.heard;have:=(h6 hb).1;have hk:k≤60:=by omega
  have:=Ox (h:=m.2.2.2.2.2.2.2.2.2.1) (k:=k) hm.items;refine ⟨?_,?_⟩
  ·show (jn m.2.2.2.1 m.2.2.2.2.2.2.2.2.2.1 k).length≤60;rw [zH];exact hk
  ·show wl dJ (jn m.2.2.2.1 m.2.2.2.2.2.2.2.2.2.1 k)≤3600;omega
def gv (c:Int) (ms:dC) (l:aV):List tK:=l.map fun x=>(1,c,ms,x.1,x.2.1,x.2.2.1,x.2.2.2.1,[],())
theorem oz (c:Int) (ms:dC) (l:aV):(gv c ms l).length=l.length:=by simp [gv]
theorem R4 (c:Int) (ms:dC):(l:aV)→wl bt (gv c ms l)=l.length*(ms.length+wl jV ms)+wl dJ l
 | []=>by simp [gv,LS]
 |x::l=>by
  have ih:=R4 c ms l;have e:gv c ms (x::l)=(1,c,ms,x.1,x.2.1,x.2.2.1,x.2.2.2.1,[],())::gv c ms l:=rfl;rw [e,sf,ih,sf,List.length_cons,Nat.add_mul];have e1:bt ((1,c,ms,x.1,x.2.1,x.2.2.1,x.2.2.2.1,[],()):tK)=(ms.length+wl jV ms)+ByteArray.size x.2.2.2.1+0:=rfl;have e2:dJ x=ByteArray.size x.2.2.2.1:=rfl;omega
theorem mU (c:Int) (xs:dC) (h:xs.length≤1048576):aK c xs=some (c,xs,()):=by
 unfold aK;rw [aT (show (0+xs.length)*8≤lim by unfold lim;omega)];rfl
def su (d:bZ) (l:aV):bZ:=(d.1,d.2.1,d.2.2.1,d.2.2.2.1,d.2.2.2.2.1,d.2.2.2.2.2.1,d.2.2.2.2.2.2.1,d.2.2.2.2.2.2.2.1,d.2.2.2.2.2.2.2.2.1,d.2.2.2.2.2.2.2.2.2.1,d.2.2.2.2.2.2.2.2.2.2.1,d.2.2.2.2.2.2.2.2.2.2.2.1,d.2.2.2.2.2.2.2.2.2.2.2.2.1,d.2.2.2.2.2.2.2.2.2.2.2.2.2.1,d.2.2.2.2.2.2.2.2.2.2.2.2.2.2.1,d.2.2.2.2.2.2.2.2.2.2.2.2.2.2.2.1,d.2.2.2.2.2.2.2.2.2.2.2.2.2.2.2.2.1,d.2.2.2.2.2.2.2.2.2.2.2.2.2.2.2.2.2.1,d.2.2.2.2.2.2.2.2.2.2.2.2.2.2.2.2.2.2.1,d.2.2.2.2.2.2.2.2.2.2.2.2.2.2.2.2.2.2.2.1,d.2.2.2.2.2.2.2.2.2.2.2.2.2.2.2.2.2.2.2.2.1,d.2.2.2.2.2.2.2.2.2.2.2.2.2.2.2.2.2.2.2.2.2.1,d.2.2.2.2.2.2.2.2.2.2.2.2.2.2.2.2.2.2.2.2.2.2.1,d.2.2.2.2.2.2.2.2.2.2.2.2.2.2.2.2.2.2.2.2.2.2.2.1++gv d.2.2.2.1 d.2.2.2.2.1 l,())
theorem Ej {c:Int} {ms:dC} {l:aV} {lg:List tK} {k:Nat} (hk:k<l.length):lg++gv c ms (l.take (k+1))=(lg++gv c ms (l.take k))++[(1,c,ms,l[k].1,l[k].2.1,l[k].2.2.1,l[k].2.2.2.1,[],())]:=by
 rw [List.take_succ_eq_append_getElem hk,List.append_assoc]
 congr 1
 unfold gv;rw [List.map_append];rfl
theorem XM (d:bZ) (l:aV) (hr:d.2.2.2.2.1.length≤1048576) (hl:l.length≤1048576) (hg:d.2.2.2.2.2.2.2.2.2.2.2.2.2.2.2.2.2.2.2.2.2.2.2.1.length≤1048576):mF d.1 d.2.1 d.2.2.1 d.2.2.2.1 d.2.2.2.2.1 d.2.2.2.2.2.1 d.2.2.2.2.2.2.1 d.2.2.2.2.2.2.2.1 d.2.2.2.2.2.2.2.2.1 d.2.2.2.2.2.2.2.2.2.1 d.2.2.2.2.2.2.2.2.2.2.1 d.2.2.2.2.2.2.2.2.2.2.2.1 d.2.2.2.2.2.2.2.2.2.2.2.2.1 d.2.2.2.2.2.2.2.2.2.2.2.2.2.1 d.2.2.2.2.2.2.2.2.2.2.2.2.2.2.1 d.2.2.2.2.2.2.2.2.2.2.2.2.2.2.2.1 d.2.2.2.2.2.2.2.2.2.2.2.2.2.2.2.2.1 d.2.2.2.2.2.2.2.2.2.2.2.2.2.2.2.2.2.1 d.2.2.2.2.2.2.2.2.2.2.2.2.2.2.2.2.2.2.1 d.2.2.2.2.2.2.2.2.2.2.2.2.2.2.2.2.2.2.2.1 d.2.2.2.2.2.2.2.2.2.2.2.2.2.2.2.2.2.2.2.2.1 d.2.2.2.2.2.2.2.2.2.2.2.2.2.2.2.2.2.2.2.2.2.1 d.2.2.2.2.2.2.2.2.2.2.2.2.2.2.2.2.2.2.2.2.2.2.1 d.2.2.2.2.2.2.2.2.2.2.2.2.2.2.2.2.2.2.2.2.2.2.2.1 l=some (su d l):=by
 have hl:=ck (round:=ij) (e:=.inl (su d l)) l.length (fun k=>(d.1,d.2.1,d.2.2.1,d.2.2.2.1,d.2.2.2.2.1,d.2.2.2.2.2.1,d.2.2.2.2.2.2.1,d.2.2.2.2.2.2.2.1,d.2.2.2.2.2.2.2.2.1,d.2.2.2.2.2.2.2.2.2.1,d.2.2.2.2.2.2.2.2.2.2.1,d.2.2.2.2.2.2.2.2.2.2.2.1,d.2.2.2.2.2.2.2.2.2.2.2.2.1,d.2.2.2.2.2.2.2.2.2.2.2.2.2.1,d.2.2.2.2.2.2.2.2.2.2.2.2.2.2.1,d.2.2.2.2.2.2.2.2.2.2.2.2.2.2.2.1,d.2.2.2.2.2.2.2.2.2.2.2.2.2.2.2.2.1,d.2.2.2.2.2.2.2.2.2.2.2.2.2.2.2.2.2.1,d.2.2.2.2.2.2.2.2.2.2.2.2.2.2.2.2.2.2.1,d.2.2.2.2.2.2.2.2.2.2.2.2.2.2.2.2.2.2.2.1,d.2.2.2.2.2.2.2.2.2.2.2.2.2.2.2.2.2.2.2.2.1,d.2.2.2.2.2.2.2.2.2.2.2.2.2.2.2.2.2.2.2.2.2.1,d.2.2.2.2.2.2.2.2.2.2.2.2.2.2.2.2.2.2.2.2.2.2.1,d.2.2.2.2.2.2.2.2.2.2.2.2.2.2.2.2.2.2.2.2.2.2.2.1++gv d.2.2.2.1 d.2.2.2.2.1 (l.take k),l,((List.length l:Nat):Int),((k:Nat):Int),())) (by
  simp only [ij,az,pK,aA,aM,cond_false,List.take_length,su]) (fun k hk=>by
  have hlen:(d.2.2.2.2.2.2.2.2.2.2.2.2.2.2.2.2.2.2.2.2.2.2.2.1++gv d.2.2.2.1 d.2.2.2.2.1 (l.take k)).length≤1048576+1048576:=by
   rw [List.length_append,oz,List.length_take];omega
  simp only [ij,az,pK,aA,aE hk,ax,cond_true,aF,List.getElem?_eq_getElem hk,Option.bind_some,mT _ _ hr,aT (show ((d.2.2.2.2.2.2.2.2.2.2.2.2.2.2.2.2.2.2.2.2.2.2.2.1++gv d.2.2.2.1 d.2.2.2.2.1 (l.take k)).length+1)*104≤lim by unfold lim;omega),aN (show k<4611686018427387904 by omega)];rw [Ej hk])
 have hl:aJ ij (d.1,d.2.1,d.2.2.1,d.2.2.2.1,d.2.2.2.2.1,d.2.2.2.2.2.1,d.2.2.2.2.2.2.1,d.2.2.2.2.2.2.2.1,d.2.2.2.2.2.2.2.2.1,d.2.2.2.2.2.2.2.2.2.1,d.2.2.2.2.2.2.2.2.2.2.1,d.2.2.2.2.2.2.2.2.2.2.2.1,d.2.2.2.2.2.2.2.2.2.2.2.2.1,d.2.2.2.2.2.2.2.2.2.2.2.2.2.1,d.2.2.2.2.2.2.2.2.2.2.2.2.2.2.1,d.2.2.2.2.2.2.2.2.2.2.2.2.2.2.2.1,d.2.2.2.2.2.2.2.2.2.2.2.2.2.2.2.2.1,d.2.2.2.2.2.2.2.2.2.2.2.2.2.2.2.2.2.1,d.2.2.2.2.2.2.2.2.2.2.2.2.2.2.2.2.2.2.1,d.2.2.2.2.2.2.2.2.2.2.2.2.2.2.2.2.2.2.2.1,d.2.2.2.2.2.2.2.2.2.2.2.2.2.2.2.2.2.2.2.2.1,d.2.2.2.2.2.2.2.2.2.2.2.2.2.2.2.2.2.2.2.2.2.1,d.2.2.2.2.2.2.2.2.2.2.2.2.2.2.2.2.2.2.2.2.2.2.1,d.2.2.2.2.2.2.2.2.2.2.2.2.2.2.2.2.2.2.2.2.2.2.2.1++[],l,((List.length l:Nat):Int),(0:Int),())=_:=hl;rw [List.append_nil] at hl;unfold mF;rw [hl];rfl
theorem XN (d:bZ) (m:jc) (l:aV) (hr:m.2.2.1.length≤1048576) (hl:l.length≤1048576) (hg:d.2.2.2.2.2.2.2.2.2.2.2.2.2.2.2.2.2.2.2.2.2.2.2.1.length≤1048576):aJ gT (d.1,d.2.1,d.2.2.1,d.2.2.2.1,d.2.2.2.2.1,d.2.2.2.2.2.1,d.2.2.2.2.2.2.1,d.2.2.2.2.2.2.2.1,d.2.2.2.2.2.2.2.2.1,d.2.2.2.2.2.2.2.2.2.1,d.2.2.2.2.2.2.2.2.2.2.1,d.2.2.2.2.2.2.2.2.2.2.2.1,d.2.2.2.2.2.2.2.2.2.2.2.2.1,d.2.2.2.2.2.2.2.2.2.2.2.2.2.1,d.2.2.2.2.2.2.2.2.2.2.2.2.2.2.1,d.2.2.2.2.2.2.2.2.2.2.2.2.2.2.2.1,d.2.2.2.2.2.2.2.2.2.2.2.2.2.2.2.2.1,d.2.2.2.2.2.2.2.2.2.2.2.2.2.2.2.2.2.1,d.2.2.2.2.2.2.2.2.2.2.2.2.2.2.2.2.2.2.1,d.2.2.2.2.2.2.2.2.2.2.2.2.2.2.2.2.2.2.2.1,d.2.2.2.2.2.2.2.2.2.2.2.2.2.2.2.2.2.2.2.2.1,d.2.2.2.2.2.2.2.2.2.2.2.2.2.2.2.2.2.2.2.2.2.1,d.2.2.2.2.2.2.2.2.2.2.2.2.2.2.2.2.2.2.2.2.2.2.1,d.2.2.2.2.2.2.2.2.2.2.2.2.2.2.2.2.2.2.2.2.2.2.2.1,m.1,m.2.1,m.2.2.1,m.2.2.2.1,m.2.2.2.2.1,m.2.2.2.2.2.1,m.2.2.2.2.2.2.1,m.2.2.2.2.2.2.2.1,m.2.2.2.2.2.2.2.2.1,m.2.2.2.2.2.2.2.2.2.1,m.2.2.2.2.2.2.2.2.2.2.1,m.2.2.2.2.2.2.2.2.2.2.2.1,m.2.2.2.2.2.2.2.2.2.2.2.2.1,m.2.2.2.2.2.2.2.2.2.2.2.2.2.1,m.2.2.2.2.2.2.2.2.2.2.2.2.2.2.1,m.2.2.2.2.2.2.2.2.2.2.2.2.2.2.2.1,l,(0:Int),())=some (.inl (d.1,d.2.1,d.2.2.1,d.2.2.2.1,d.2.2.2.2.1,d.2.2.2.2.2.1,d.2.2.2.2.2.2.1,d.2.2.2.2.2.2.2.1,d.2.2.2.2.2.2.2.2.1,d.2.2.2.2.2.2.2.2.2.1,d.2.2.2.2.2.2.2.2.2.2.1,d.2.2.2.2.2.2.2.2.2.2.2.1,d.2.2.2.2.2.2.2.2.2.2.2.2.1,d.2.2.2.2.2.2.2.2.2.2.2.2.2.1,d.2.2.2.2.2.2.2.2.2.2.2.2.2.2.1,d.2.2.2.2.2.2.2.2.2.2.2.2.2.2.2.1,d.2.2.2.2.2.2.2.2.2.2.2.2.2.2.2.2.1,d.2.2.2.2.2.2.2.2.2.2.2.2.2.2.2.2.2.1,d.2.2.2.2.2.2.2.2.2.2.2.2.2.2.2.2.2.2.1,d.2.2.2.2.2.2.2.2.2.2.2.2.2.2.2.2.2.2.2.1,d.2.2.2.2.2.2.2.2.2.2.2.2.2.2.2.2.2.2.2.2.1,d.2.2.2.2.2.2.2.2.2.2.2.2.2.2.2.2.2.2.2.2.2.1,d.2.2.2.2.2.2.2.2.2.2.2.2.2.2.2.2.2.2.2.2.2.2.1,d.2.2.2.2.2.2.2.2.2.2.2.2.2.2.2.2.2.2.2.2.2.2.2.1++gv m.2.1 m.2.2.1 l,())):=by
 have hl:=ck (round:=gT) (e:=.inl (d.1,d.2.1,d.2.2.1,d.2.2.2.1,d.2.2.2.2.1,d.2.2.2.2.2.1,d.2.2.2.2.2.2.1,d.2.2.2.2.2.2.2.1,d.2.2.2.2.2.2.2.2.1,d.2.2.2.2.2.2.2.2.2.1,d.2.2.2.2.2.2.2.2.2.2.1,d.2.2.2.2.2.2.2.2.2.2.2.1,d.2.2.2.2.2.2.2.2.2.2.2.2.1,d.2.2.2.2.2.2.2.2.2.2.2.2.2.1,d.2.2.2.2.2.2.2.2.2.2.2.2.2.2.1,d.2.2.2.2.2.2.2.2.2.2.2.2.2.2.2.1,d.2.2.2.2.2.2.2.2.2.2.2.2.2.2.2.2.1,d.2.2.2.2.2.2.2.2.2.2.2.2.2.2.2.2.2.1,d.2.2.2.2.2.2.2.2.2.2.2.2.2.2.2.2.2.2.1,d.2.2.2.2.2.2.2.2.2.2.2.2.2.2.2.2.2.2.2.1,d.2.2.2.2.2.2.2.2.2.2.2.2.2.2.2.2.2.2.2.2.1,d.2.2.2.2.2.2.2.2.2.2.2.2.2.2.2.2.2.2.2.2.2.1,d.2.2.2.2.2.2.2.2.2.2.2.2.2.2.2.2.2.2.2.2.2.2.1,d.2.2.2.2.2.2.2.2.2.2.2.2.2.2.2.2.2.2.2.2.2.2.2.1++gv m.2.1 m.2.2.1 l,())) l.length (fun k=>(d.1,d.2.1,d.2.2.1,d.2.2.2.1,d.2.2.2.2.1,d.2.2.2.2.2.1,d.2.2.2.2.2.2.1,d.2.2.2.2.2.2.2.1,d.2.2.2.2.2.2.2.2.1,d.2.2.2.2.2.2.2.2.2.1,d.2.2.2.2.2.2.2.2.2.2.1,d.2.2.2.2.2.2.2.2.2.2.2.1,d.2.2.2.2.2.2.2.2.2.2.2.2.1,d.2.2.2.2.2.2.2.2.2.2.2.2.2.1,d.2.2.2.2.2.2.2.2.2.2.2.2.2.2.1,d.2.2.2.2.2.2.2.2.2.2.2.2.2.2.2.1,d.2.2.2.2.2.2.2.2.2.2.2.2.2.2.2.2.1,d.2.2.2.2.2.2.2.2.2.2.2.2.2.2.2.2.2.1,d.2.2.2.2.2.2.2.2.2.2.2.2.2.2.2.2.2.2.1,d.2.2.2.2.2.2.2.2.2.2.2.2.2.2.2.2.2.2.2.1,d.2.2.2.2.2.2.2.2.2.2.2.2.2.2.2.2.2.2.2.2.1,d.2.2.2.2.2.2.2.2.2.2.2.2.2.2.2.2.2.2.2.2.2.1,d.2.2.2.2.2.2.2.2.2.2.2.2.2.2.2.2.2.2.2.2.2.2.1,d.2.2.2.2.2.2.2.2.2.2.2.2.2.2.2.2.2.2.2.2.2.2.2.1++gv m.2.1 m.2.2.1 (l.take k),m.1,m.2.1,m.2.2.1,m.2.2.2.1,m.2.2.2.2.1,m.2.2.2.2.2.1,m.2.2.2.2.2.2.1,m.2.2.2.2.2.2.2.1,m.2.2.2.2.2.2.2.2.1,m.2.2.2.2.2.2.2.2.2.1,m.2.2.2.2.2.2.2.2.2.2.1,m.2.2.2.2.2.2.2.2.2.2.2.1,m.2.2.2.2.2.2.2.2.2.2.2.2.1,m.2.2.2.2.2.2.2.2.2.2.2.2.2.1,m.2.2.2.2.2.2.2.2.2.2.2.2.2.2.1,m.2.2.2.2.2.2.2.2.2.2.2.2.2.2.2.1,l,((k:Nat):Int),())) (by
  simp only [gT,ba,az,td,aA,aM,cond_false,List.take_length]) (fun k hk=>by
  have hlen:(d.2.2.2.2.2.2.2.2.2.2.2.2.2.2.2.2.2.2.2.2.2.2.2.1++gv m.2.1 m.2.2.1 (l.take k)).length≤1048576+1048576:=by
   rw [List.length_append,oz,List.length_take];omega
  simp only [gT,ba,az,td,aA,aE hk,ax,cond_true,aF,fl hk,List.getElem?_eq_getElem hk,Option.bind_some,mU _ _ hr,aT (show ((d.2.2.2.2.2.2.2.2.2.2.2.2.2.2.2.2.2.2.2.2.2.2.2.1++gv m.2.1 m.2.2.1 (l.take k)).length+1)*104≤lim by unfold lim;omega),aN (show k<4611686018427387904 by omega)];rw [Ej hk])
 have hl:aJ gT (d.1,d.2.1,d.2.2.1,d.2.2.2.1,d.2.2.2.2.1,d.2.2.2.2.2.1,d.2.2.2.2.2.2.1,d.2.2.2.2.2.2.2.1,d.2.2.2.2.2.2.2.2.1,d.2.2.2.2.2.2.2.2.2.1,d.2.2.2.2.2.2.2.2.2.2.1,d.2.2.2.2.2.2.2.2.2.2.2.1,d.2.2.2.2.2.2.2.2.2.2.2.2.1,d.2.2.2.2.2.2.2.2.2.2.2.2.2.1,d.2.2.2.2.2.2.2.2.2.2.2.2.2.2.1,d.2.2.2.2.2.2.2.2.2.2.2.2.2.2.2.1,d.2.2.2.2.2.2.2.2.2.2.2.2.2.2.2.2.1,d.2.2.2.2.2.2.2.2.2.2.2.2.2.2.2.2.2.1,d.2.2.2.2.2.2.2.2.2.2.2.2.2.2.2.2.2.2.1,d.2.2.2.2.2.2.2.2.2.2.2.2.2.2.2.2.2.2.2.1,d.2.2.2.2.2.2.2.2.2.2.2.2.2.2.2.2.2.2.2.2.1,d.2.2.2.2.2.2.2.2.2.2.2.2.2.2.2.2.2.2.2.2.2.1,d.2.2.2.2.2.2.2.2.2.2.2.2.2.2.2.2.2.2.2.2.2.2.1,d.2.2.2.2.2.2.2.2.2.2.2.2.2.2.2.2.2.2.2.2.2.2.2.1++[],m.1,m.2.1,m.2.2.1,m.2.2.2.1,m.2.2.2.2.1,m.2.2.2.2.2.1,m.2.2.2.2.2.2.1,m.2.2.2.2.2.2.2.1,m.2.2.2.2.2.2.2.2.1,m.2.2.2.2.2.2.2.2.2.1,m.2.2.2.2.2.2.2.2.2.2.1,m.2.2.2.2.2.2.2.2.2.2.2.1,m.2.2.2.2.2.2.2.2.2.2.2.2.1,m.2.2.2.2.2.2.2.2.2.2.2.2.2.1,m.2.2.2.2.2.2.2.2.2.2.2.2.2.2.1,m.2.2.2.2.2.2.2.2.2.2.2.2.2.2.2.1,l,(0:Int),())=_:=hl;rw [List.append_nil] at hl;exact hl
noncomputable def tO (d:bZ):bZ:=su (jU d (cz (aI d)).1) (cz (aI d)).2
theorem IJ (d:bZ) (h0:mq (aI d)≤1048576) (hg:d.2.2.2.2.2.2.2.2.2.2.2.2.2.2.2.2.2.2.2.2.2.2.2.1.length≤1048576):kH d.1 d.2.1 d.2.2.1 d.2.2.2.1 d.2.2.2.2.1 d.2.2.2.2.2.1 d.2.2.2.2.2.2.1 d.2.2.2.2.2.2.2.1 d.2.2.2.2.2.2.2.2.1 d.2.2.2.2.2.2.2.2.2.1 d.2.2.2.2.2.2.2.2.2.2.1 d.2.2.2.2.2.2.2.2.2.2.2.1 d.2.2.2.2.2.2.2.2.2.2.2.2.1 d.2.2.2.2.2.2.2.2.2.2.2.2.2.1 d.2.2.2.2.2.2.2.2.2.2.2.2.2.2.1 d.2.2.2.2.2.2.2.2.2.2.2.2.2.2.2.1 d.2.2.2.2.2.2.2.2.2.2.2.2.2.2.2.2.1 d.2.2.2.2.2.2.2.2.2.2.2.2.2.2.2.2.2.1 d.2.2.2.2.2.2.2.2.2.2.2.2.2.2.2.2.2.2.1 d.2.2.2.2.2.2.2.2.2.2.2.2.2.2.2.2.2.2.2.1 d.2.2.2.2.2.2.2.2.2.2.2.2.2.2.2.2.2.2.2.2.1 d.2.2.2.2.2.2.2.2.2.2.2.2.2.2.2.2.2.2.2.2.2.1 d.2.2.2.2.2.2.2.2.2.2.2.2.2.2.2.2.2.2.2.2.2.2.1 d.2.2.2.2.2.2.2.2.2.2.2.2.2.2.2.2.2.2.2.2.2.2.2.1=some (tO d)∧gr d.1 d.2.1 d.2.2.1 d.2.2.2.1 d.2.2.2.2.1 d.2.2.2.2.2.1 d.2.2.2.2.2.2.1 d.2.2.2.2.2.2.2.1 d.2.2.2.2.2.2.2.2.1 d.2.2.2.2.2.2.2.2.2.1 d.2.2.2.2.2.2.2.2.2.2.1 d.2.2.2.2.2.2.2.2.2.2.2.1 d.2.2.2.2.2.2.2.2.2.2.2.2.1 d.2.2.2.2.2.2.2.2.2.2.2.2.2.1 d.2.2.2.2.2.2.2.2.2.2.2.2.2.2.1 d.2.2.2.2.2.2.2.2.2.2.2.2.2.2.2.1 d.2.2.2.2.2.2.2.2.2.2.2.2.2.2.2.2.1 d.2.2.2.2.2.2.2.2.2.2.2.2.2.2.2.2.2.1 d.2.2.2.2.2.2.2.2.2.2.2.2.2.2.2.2.2.2.1 d.2.2.2.2.2.2.2.2.2.2.2.2.2.2.2.2.2.2.2.1 d.2.2.2.2.2.2.2.2.2.2.2.2.2.2.2.2.2.2.2.2.1 d.2.2.2.2.2.2.2.2.2.2.2.2.2.2.2.2.2.2.2.2.2.1 d.2.2.2.2.2.2.2.2.2.2.2.2.2.2.2.2.2.2.2.2.2.2.1 d.2.2.2.2.2.2.2.2.2.2.2.2.2.2.2.2.2.2.2.2.2.2.2.1=some (tO d):=by
 obtain ⟨s1,s2⟩:=Uo (aI d) h0;obtain ⟨z1,z2,_⟩:=Up (aI d) h0;have s1:oa d.2.2.1 d.2.2.2.1 d.2.2.2.2.1 d.2.2.2.2.2.1 d.2.2.2.2.2.2.1 d.2.2.2.2.2.2.2.1 d.2.2.2.2.2.2.2.2.1 d.2.2.2.2.2.2.2.2.2.1 d.2.2.2.2.2.2.2.2.2.2.1 d.2.2.2.2.2.2.2.2.2.2.2.1 d.2.2.2.2.2.2.2.2.2.2.2.2.1 d.2.2.2.2.2.2.2.2.2.2.2.2.2.1 d.2.2.2.2.2.2.2.2.2.2.2.2.2.2.1 d.2.2.2.2.2.2.2.2.2.2.2.2.2.2.2.1 d.2.2.2.2.2.2.2.2.2.2.2.2.2.2.2.2.1 d.2.2.2.2.2.2.2.2.2.2.2.2.2.2.2.2.2.1=some ((cz (aI d)).1.1,(cz (aI d)).1.2.1,(cz (aI d)).1.2.2.1,(cz (aI d)).1.2.2.2.1,(cz (aI d)).1.2.2.2.2.1,(cz (aI d)).1.2.2.2.2.2.1,(cz (aI d)).1.2.2.2.2.2.2.1,(cz (aI d)).1.2.2.2.2.2.2.2.1,(cz (aI d)).1.2.2.2.2.2.2.2.2.1,(cz (aI d)).1.2.2.2.2.2.2.2.2.2.1,(cz (aI d)).1.2.2.2.2.2.2.2.2.2.2.1,(cz (aI d)).1.2.2.2.2.2.2.2.2.2.2.2.1,(cz (aI d)).1.2.2.2.2.2.2.2.2.2.2.2.2.1,(cz (aI d)).1.2.2.2.2.2.2.2.2.2.2.2.2.2.1,(cz (aI d)).1.2.2.2.2.2.2.2.2.2.2.2.2.2.2.1,(cz (aI d)).1.2.2.2.2.2.2.2.2.2.2.2.2.2.2.2.1,(cz (aI d)).2,()):=s1;have s2:pR d.2.2.1 d.2.2.2.1 d.2.2.2.2.1 d.2.2.2.2.2.1 d.2.2.2.2.2.2.1 d.2.2.2.2.2.2.2.1 d.2.2.2.2.2.2.2.2.1 d.2.2.2.2.2.2.2.2.2.1 d.2.2.2.2.2.2.2.2.2.2.1 d.2.2.2.2.2.2.2.2.2.2.2.1 d.2.2.2.2.2.2.2.2.2.2.2.2.1 d.2.2.2.2.2.2.2.2.2.2.2.2.2.1 d.2.2.2.2.2.2.2.2.2.2.2.2.2.2.1 d.2.2.2.2.2.2.2.2.2.2.2.2.2.2.2.1 d.2.2.2.2.2.2.2.2.2.2.2.2.2.2.2.2.1 d.2.2.2.2.2.2.2.2.2.2.2.2.2.2.2.2.2.1=some ((cz (aI d)).1.1,(cz (aI d)).1.2.1,(cz (aI d)).1.2.2.1,(cz (aI d)).1.2.2.2.1,(cz (aI d)).1.2.2.2.2.1,(cz (aI d)).1.2.2.2.2.2.1,(cz (aI d)).1.2.2.2.2.2.2.1,(cz (aI d)).1.2.2.2.2.2.2.2.1,(cz (aI d)).1.2.2.2.2.2.2.2.2.1,(cz (aI d)).1.2.2.2.2.2.2.2.2.2.1,(cz (aI d)).1.2.2.2.2.2.2.2.2.2.2.1,(cz (aI d)).1.2.2.2.2.2.2.2.2.2.2.2.1,(cz (aI d)).1.2.2.2.2.2.2.2.2.2.2.2.2.1,(cz (aI d)).1.2.2.2.2.2.2.2.2.2.2.2.2.2.1,(cz (aI d)).1.2.2.2.2.2.2.2.2.2.2.2.2.2.2.1,(cz (aI d)).1.2.2.2.2.2.2.2.2.2.2.2.2.2.2.2.1,(cz (aI d)).2,()):=s2;have hr:(cz (aI d)).1.2.2.1.length≤1048576:=by
  have:(cz (aI d)).1.2.2.1.length≤mq (cz (aI d)).1:=by unfold mq;omega
  omega
 unfold tO;generalize cz (aI d)=q at s1 s2 z2 hr;obtain ⟨m,l⟩:=q;have z2:l.length≤60:=z2;have e1:=XN (jU d m) m l hr (by omega) hg;have e2:=XM (jU d m) l hr (by omega) hg
 constructor
 ·unfold kH;delta cV;simp only [s1,Option.bind_some];have e1:aJ gT (d.1,d.2.1,m.1,m.2.1,m.2.2.1,m.2.2.2.1,m.2.2.2.2.1,m.2.2.2.2.2.1,m.2.2.2.2.2.2.1,m.2.2.2.2.2.2.2.1,m.2.2.2.2.2.2.2.2.1,m.2.2.2.2.2.2.2.2.2.1,m.2.2.2.2.2.2.2.2.2.2.1,m.2.2.2.2.2.2.2.2.2.2.2.1,m.2.2.2.2.2.2.2.2.2.2.2.2.1,m.2.2.2.2.2.2.2.2.2.2.2.2.2.1,m.2.2.2.2.2.2.2.2.2.2.2.2.2.2.1,m.2.2.2.2.2.2.2.2.2.2.2.2.2.2.2.1,d.2.2.2.2.2.2.2.2.2.2.2.2.2.2.2.2.2.2.1,d.2.2.2.2.2.2.2.2.2.2.2.2.2.2.2.2.2.2.2.1,d.2.2.2.2.2.2.2.2.2.2.2.2.2.2.2.2.2.2.2.2.1,d.2.2.2.2.2.2.2.2.2.2.2.2.2.2.2.2.2.2.2.2.2.1,d.2.2.2.2.2.2.2.2.2.2.2.2.2.2.2.2.2.2.2.2.2.2.1,d.2.2.2.2.2.2.2.2.2.2.2.2.2.2.2.2.2.2.2.2.2.2.2.1,m.1,m.2.1,m.2.2.1,m.2.2.2.1,m.2.2.2.2.1,m.2.2.2.2.2.1,m.2.2.2.2.2.2.1,m.2.2.2.2.2.2.2.1,m.2.2.2.2.2.2.2.2.1,m.2.2.2.2.2.2.2.2.2.1,m.2.2.2.2.2.2.2.2.2.2.1,m.2.2.2.2.2.2.2.2.2.2.2.1,m.2.2.2.2.2.2.2.2.2.2.2.2.1,m.2.2.2.2.2.2.2.2.2.2.2.2.2.1,m.2.2.2.2.2.2.2.2.2.2.2.2.2.2.1,m.2.2.2.2.2.2.2.2.2.2.2.2.2.2.2.1,l,(0:Int),())=_:=e1;rw [e1];rfl
 ·unfold gr;delta ba;simp only [s2,Option.bind_some];have e2:mF d.1 d.2.1 m.1 m.2.1 m.2.2.1 m.2.2.2.1 m.2.2.2.2.1 m.2.2.2.2.2.1 m.2.2.2.2.2.2.1 m.2.2.2.2.2.2.2.1 m.2.2.2.2.2.2.2.2.1 m.2.2.2.2.2.2.2.2.2.1 m.2.2.2.2.2.2.2.2.2.2.1 m.2.2.2.2.2.2.2.2.2.2.2.1 m.2.2.2.2.2.2.2.2.2.2.2.2.1 m.2.2.2.2.2.2.2.2.2.2.2.2.2.1 m.2.2.2.2.2.2.2.2.2.2.2.2.2.2.1 m.2.2.2.2.2.2.2.2.2.2.2.2.2.2.2.1 d.2.2.2.2.2.2.2.2.2.2.2.2.2.2.2.2.2.2.1 d.2.2.2.2.2.2.2.2.2.2.2.2.2.2.2.2.2.2.2.1 d.2.2.2.2.2.2.2.2.2.2.2.2.2.2.2.2.2.2.2.2.1 d.2.2.2.2.2.2.2.2.2.2.2.2.2.2.2.2.2.2.2.2.2.1 d.2.2.2.2.2.2.2.2.2.2.2.2.2.2.2.2.2.2.2.2.2.2.1 d.2.2.2.2.2.2.2.2.2.2.2.2.2.2.2.2.2.2.2.2.2.2.2.1 l=_:=e2;rw [e2];rfl
noncomputable def fZ (d:bZ):Bool:=jd d&&(!d.2.1&&(decide (0<d.2.2.2.2.2.2.2.2.2.2.2.2.2.2.2.2.2.2.2.1)&&decide (d.2.2.2.2.2.2.2.2.2.2.2.2.2.2.2.2.2.2.2.2.1=0)))
theorem Oz (d:bZ) (h:ow d≤1048576) (hi:fZ d=true):xX d∧rb (aI d)∧d.2.1=false∧d.2.2.2.2.2.2.2.2.2.2.2.2.2.2.2.2.2.2.2.2.1=0∧0<d.2.2.2.2.2.2.2.2.2.2.2.2.2.2.2.2.2.2.2.1∧d.2.2.2.2.2.2.2.2.2.2.2.2.2.2.2.2.2.2.2.1=d.2.2.2.1:=by
 unfold fZ at hi;simp only [Bool.and_eq_true,decide_eq_true_eq,Bool.not_eq_true'] at hi;obtain ⟨h1,h2,h3,h4⟩:=hi;have q:=(j6 d h).2.2.1 h1;refine ⟨q,?_,h2,h4,h3,q.old.1⟩;rcases q.tM with g | ⟨g,_⟩
 ·have:d.2.2.2.1=0:=g.2.1;have:=q.old.1;omega
 ·exact g
theorem CY (d:bZ) (h:ow d≤1048576):(!decide (d.2.2.2.1=0)&&decide (d.2.2.2.2.2.2.2.2.2.2.2.2.2.2.2.2.2.2.2.2.1=0)&&jd d)=fZ d:=by
 unfold fZ
 cases hb:jd d
 ·simp
 have q:=(j6 d h).2.2.1 hb
 by_cases ho:d.2.2.2.1=0
 ·have:¬0<d.2.2.2.2.2.2.2.2.2.2.2.2.2.2.2.2.2.2.2.1:=by have:=q.old.1;omega
  rw [ak ho,aq this]
  cases d.2.1<;>rfl
 ·have hm:rb (aI d):=by
   rcases q.tM with g | ⟨g,_⟩
   ·exact absurd g.2.1 ho
   ·exact g
  have h1:1≤d.2.2.2.1:=hm.ring.1.1;have hd:d.2.1=false:=by
   cases hd:d.2.1
   ·rfl
   ·exact absurd (q.dead hd).1.2.1 ho
  have:0<d.2.2.2.2.2.2.2.2.2.2.2.2.2.2.2.2.2.2.2.1:=by have:=q.old.1;omega
  rw [aq ho,ak this,hd]
  cases decide (d.2.2.2.2.2.2.2.2.2.2.2.2.2.2.2.2.2.2.2.2.1=0)<;>rfl
noncomputable def mV (d:bZ) (wj:Int) (x:dY):bZ:=bif fZ d&&decide (d.2.2.2.2.2.2.2.2.2.2.2.2.2.2.2.2.2.2.2.1=wj) then tO (jU d (qU (aI d) x)) else d
theorem JA (d:bZ) (wj:Int) (x:dY) (m:jc) (r:bZ) (p1:cn d.1 d.2.1 d.2.2.1 d.2.2.2.1 d.2.2.2.2.1 d.2.2.2.2.2.1 d.2.2.2.2.2.2.1 d.2.2.2.2.2.2.2.1 d.2.2.2.2.2.2.2.2.1 d.2.2.2.2.2.2.2.2.2.1 d.2.2.2.2.2.2.2.2.2.2.1 d.2.2.2.2.2.2.2.2.2.2.2.1 d.2.2.2.2.2.2.2.2.2.2.2.2.1 d.2.2.2.2.2.2.2.2.2.2.2.2.2.1 d.2.2.2.2.2.2.2.2.2.2.2.2.2.2.1 d.2.2.2.2.2.2.2.2.2.2.2.2.2.2.2.1 d.2.2.2.2.2.2.2.2.2.2.2.2.2.2.2.2.1 d.2.2.2.2.2.2.2.2.2.2.2.2.2.2.2.2.2.1 d.2.2.2.2.2.2.2.2.2.2.2.2.2.2.2.2.2.2.1 d.2.2.2.2.2.2.2.2.2.2.2.2.2.2.2.2.2.2.2.1 d.2.2.2.2.2.2.2.2.2.2.2.2.2.2.2.2.2.2.2.2.1 d.2.2.2.2.2.2.2.2.2.2.2.2.2.2.2.2.2.2.2.2.2.1 d.2.2.2.2.2.2.2.2.2.2.2.2.2.2.2.2.2.2.2.2.2.2.1 d.2.2.2.2.2.2.2.2.2.2.2.2.2.2.2.2.2.2.2.2.2.2.2.1=some d) (hi:ft d.1 d.2.1 d.2.2.1 d.2.2.2.1 d.2.2.2.2.1 d.2.2.2.2.2.1 d.2.2.2.2.2.2.1 d.2.2.2.2.2.2.2.1 d.2.2.2.2.2.2.2.2.1 d.2.2.2.2.2.2.2.2.2.1 d.2.2.2.2.2.2.2.2.2.2.1 d.2.2.2.2.2.2.2.2.2.2.2.1 d.2.2.2.2.2.2.2.2.2.2.2.2.1 d.2.2.2.2.2.2.2.2.2.2.2.2.2.1 d.2.2.2.2.2.2.2.2.2.2.2.2.2.2.1 d.2.2.2.2.2.2.2.2.2.2.2.2.2.2.2.1 d.2.2.2.2.2.2.2.2.2.2.2.2.2.2.2.2.1 d.2.2.2.2.2.2.2.2.2.2.2.2.2.2.2.2.2.1 d.2.2.2.2.2.2.2.2.2.2.2.2.2.2.2.2.2.2.1 d.2.2.2.2.2.2.2.2.2.2.2.2.2.2.2.2.2.2.2.1 d.2.2.2.2.2.2.2.2.2.2.2.2.2.2.2.2.2.2.2.2.1 d.2.2.2.2.2.2.2.2.2.2.2.2.2.2.2.2.2.2.2.2.2.1 d.2.2.2.2.2.2.2.2.2.2.2.2.2.2.2.2.2.2.2.2.2.2.1 d.2.2.2.2.2.2.2.2.2.2.2.2.2.2.2.2.2.2.2.2.2.2.2.1=some (fZ d,())) (c1:vM d.2.2.1 d.2.2.2.1 d.2.2.2.2.1 d.2.2.2.2.2.1 d.2.2.2.2.2.2.1 d.2.2.2.2.2.2.2.1 d.2.2.2.2.2.2.2.2.1 d.2.2.2.2.2.2.2.2.2.1 d.2.2.2.2.2.2.2.2.2.2.1 d.2.2.2.2.2.2.2.2.2.2.2.1 d.2.2.2.2.2.2.2.2.2.2.2.2.1 d.2.2.2.2.2.2.2.2.2.2.2.2.2.1 d.2.2.2.2.2.2.2.2.2.2.2.2.2.2.1 d.2.2.2.2.2.2.2.2.2.2.2.2.2.2.2.1 d.2.2.2.2.2.2.2.2.2.2.2.2.2.2.2.2.1 d.2.2.2.2.2.2.2.2.2.2.2.2.2.2.2.2.2.1 x.1 x.2.1 x.2.2.1 x.2.2.2.1=some m)
  (e1:kH d.1 d.2.1 m.1 m.2.1 m.2.2.1 m.2.2.2.1 m.2.2.2.2.1 m.2.2.2.2.2.1 m.2.2.2.2.2.2.1 m.2.2.2.2.2.2.2.1 m.2.2.2.2.2.2.2.2.1 m.2.2.2.2.2.2.2.2.2.1 m.2.2.2.2.2.2.2.2.2.2.1 m.2.2.2.2.2.2.2.2.2.2.2.1 m.2.2.2.2.2.2.2.2.2.2.2.2.1 m.2.2.2.2.2.2.2.2.2.2.2.2.2.1 m.2.2.2.2.2.2.2.2.2.2.2.2.2.2.1 m.2.2.2.2.2.2.2.2.2.2.2.2.2.2.2.1 d.2.2.2.2.2.2.2.2.2.2.2.2.2.2.2.2.2.2.1 d.2.2.2.2.2.2.2.2.2.2.2.2.2.2.2.2.2.2.2.1 d.2.2.2.2.2.2.2.2.2.2.2.2.2.2.2.2.2.2.2.2.1 d.2.2.2.2.2.2.2.2.2.2.2.2.2.2.2.2.2.2.2.2.2.1 d.2.2.2.2.2.2.2.2.2.2.2.2.2.2.2.2.2.2.2.2.2.2.1 d.2.2.2.2.2.2.2.2.2.2.2.2.2.2.2.2.2.2.2.2.2.2.2.1=some r):mM d.1 d.2.1 d.2.2.1 d.2.2.2.1 d.2.2.2.2.1 d.2.2.2.2.2.1 d.2.2.2.2.2.2.1 d.2.2.2.2.2.2.2.1 d.2.2.2.2.2.2.2.2.1 d.2.2.2.2.2.2.2.2.2.1 d.2.2.2.2.2.2.2.2.2.2.1 d.2.2.2.2.2.2.2.2.2.2.2.1 d.2.2.2.2.2.2.2.2.2.2.2.2.1 d.2.2.2.2.2.2.2.2.2.2.2.2.2.1 d.2.2.2.2.2.2.2.2.2.2.2.2.2.2.1 d.2.2.2.2.2.2.2.2.2.2.2.2.2.2.2.1 d.2.2.2.2.2.2.2.2.2.2.2.2.2.2.2.2.1 d.2.2.2.2.2.2.2.2.2.2.2.2.2.2.2.2.2.1 d.2.2.2.2.2.2.2.2.2.2.2.2.2.2.2.2.2.2.1 d.2.2.2.2.2.2.2.2.2.2.2.2.2.2.2.2.2.2.2.1 d.2.2.2.2.2.2.2.2.2.2.2.2.2.2.2.2.2.2.2.2.1 d.2.2.2.2.2.2.2.2.2.2.2.2.2.2.2.2.2.2.2.2.2.1 d.2.2.2.2.2.2.2.2.2.2.2.2.2.2.2.2.2.2.2.2.2.2.1 d.2.2.2.2.2.2.2.2.2.2.2.2.2.2.2.2.2.2.2.2.2.2.2.1 wj x.1 x.2.1 x.2.2.1 x.2.2.2.1=some (bif fZ d&&decide (d.2.2.2.2.2.2.2.2.2.2.2.2.2.2.2.2.2.2.2.1=wj) then r else d):=by
 unfold mM;delta ba aP;rw [p1,Option.bind_some,hi,Option.bind_some]
 cases fZ d
 ·rfl
 ·cases decide (d.2.2.2.2.2.2.2.2.2.2.2.2.2.2.2.2.2.2.2.1=wj)
  ·rfl
  ·rw [cond_true,cond_true,c1,Option.bind_some,e1,Option.bind_some];rfl
theorem JB (d:bZ) (wj:Int) (x:dY) (m:jc) (r:bZ) (p2:eg d.1 d.2.1 d.2.2.1 d.2.2.2.1 d.2.2.2.2.1 d.2.2.2.2.2.1 d.2.2.2.2.2.2.1 d.2.2.2.2.2.2.2.1 d.2.2.2.2.2.2.2.2.1 d.2.2.2.2.2.2.2.2.2.1 d.2.2.2.2.2.2.2.2.2.2.1 d.2.2.2.2.2.2.2.2.2.2.2.1 d.2.2.2.2.2.2.2.2.2.2.2.2.1 d.2.2.2.2.2.2.2.2.2.2.2.2.2.1 d.2.2.2.2.2.2.2.2.2.2.2.2.2.2.1 d.2.2.2.2.2.2.2.2.2.2.2.2.2.2.2.1 d.2.2.2.2.2.2.2.2.2.2.2.2.2.2.2.2.1 d.2.2.2.2.2.2.2.2.2.2.2.2.2.2.2.2.2.1 d.2.2.2.2.2.2.2.2.2.2.2.2.2.2.2.2.2.2.1 d.2.2.2.2.2.2.2.2.2.2.2.2.2.2.2.2.2.2.2.1 d.2.2.2.2.2.2.2.2.2.2.2.2.2.2.2.2.2.2.2.2.1 d.2.2.2.2.2.2.2.2.2.2.2.2.2.2.2.2.2.2.2.2.2.1 d.2.2.2.2.2.2.2.2.2.2.2.2.2.2.2.2.2.2.2.2.2.2.1 d.2.2.2.2.2.2.2.2.2.2.2.2.2.2.2.2.2.2.2.2.2.2.2.1=some d) (k2:cX d.1 d.2.1 d.2.2.1 d.2.2.2.1 d.2.2.2.2.1 d.2.2.2.2.2.1 d.2.2.2.2.2.2.1 d.2.2.2.2.2.2.2.1 d.2.2.2.2.2.2.2.2.1 d.2.2.2.2.2.2.2.2.2.1 d.2.2.2.2.2.2.2.2.2.2.1 d.2.2.2.2.2.2.2.2.2.2.2.1 d.2.2.2.2.2.2.2.2.2.2.2.2.1 d.2.2.2.2.2.2.2.2.2.2.2.2.2.1 d.2.2.2.2.2.2.2.2.2.2.2.2.2.2.1 d.2.2.2.2.2.2.2.2.2.2.2.2.2.2.2.1 d.2.2.2.2.2.2.2.2.2.2.2.2.2.2.2.2.1 d.2.2.2.2.2.2.2.2.2.2.2.2.2.2.2.2.2.1 d.2.2.2.2.2.2.2.2.2.2.2.2.2.2.2.2.2.2.1 d.2.2.2.2.2.2.2.2.2.2.2.2.2.2.2.2.2.2.2.1 d.2.2.2.2.2.2.2.2.2.2.2.2.2.2.2.2.2.2.2.2.1 d.2.2.2.2.2.2.2.2.2.2.2.2.2.2.2.2.2.2.2.2.2.1 d.2.2.2.2.2.2.2.2.2.2.2.2.2.2.2.2.2.2.2.2.2.2.1 d.2.2.2.2.2.2.2.2.2.2.2.2.2.2.2.2.2.2.2.2.2.2.2.1=some (jd d,())) (hq:(!decide (d.2.2.2.1=0)&&decide (d.2.2.2.2.2.2.2.2.2.2.2.2.2.2.2.2.2.2.2.2.1=0)&&jd d)=fZ d) (Yh:fZ d=true→d.2.2.2.2.2.2.2.2.2.2.2.2.2.2.2.2.2.2.2.1=d.2.2.2.1) (c2:v7 d.2.2.1 d.2.2.2.1 d.2.2.2.2.1 d.2.2.2.2.2.1 d.2.2.2.2.2.2.1 d.2.2.2.2.2.2.2.1 d.2.2.2.2.2.2.2.2.1 d.2.2.2.2.2.2.2.2.2.1 d.2.2.2.2.2.2.2.2.2.2.1 d.2.2.2.2.2.2.2.2.2.2.2.1 d.2.2.2.2.2.2.2.2.2.2.2.2.1 d.2.2.2.2.2.2.2.2.2.2.2.2.2.1 d.2.2.2.2.2.2.2.2.2.2.2.2.2.2.1 d.2.2.2.2.2.2.2.2.2.2.2.2.2.2.2.1 d.2.2.2.2.2.2.2.2.2.2.2.2.2.2.2.2.1 d.2.2.2.2.2.2.2.2.2.2.2.2.2.2.2.2.2.1 x.1 x.2.1 x.2.2.1 x.2.2.2.1=some m)
  (e2:gr d.1 d.2.1 m.1 m.2.1 m.2.2.1 m.2.2.2.1 m.2.2.2.2.1 m.2.2.2.2.2.1 m.2.2.2.2.2.2.1 m.2.2.2.2.2.2.2.1 m.2.2.2.2.2.2.2.2.1 m.2.2.2.2.2.2.2.2.2.1 m.2.2.2.2.2.2.2.2.2.2.1 m.2.2.2.2.2.2.2.2.2.2.2.1 m.2.2.2.2.2.2.2.2.2.2.2.2.1 m.2.2.2.2.2.2.2.2.2.2.2.2.2.1 m.2.2.2.2.2.2.2.2.2.2.2.2.2.2.1 m.2.2.2.2.2.2.2.2.2.2.2.2.2.2.2.1 d.2.2.2.2.2.2.2.2.2.2.2.2.2.2.2.2.2.2.1 d.2.2.2.2.2.2.2.2.2.2.2.2.2.2.2.2.2.2.2.1 d.2.2.2.2.2.2.2.2.2.2.2.2.2.2.2.2.2.2.2.2.1 d.2.2.2.2.2.2.2.2.2.2.2.2.2.2.2.2.2.2.2.2.2.1 d.2.2.2.2.2.2.2.2.2.2.2.2.2.2.2.2.2.2.2.2.2.2.1 d.2.2.2.2.2.2.2.2.2.2.2.2.2.2.2.2.2.2.2.2.2.2.2.1=some r):mS d.1 d.2.1 d.2.2.1 d.2.2.2.1 d.2.2.2.2.1 d.2.2.2.2.2.1 d.2.2.2.2.2.2.1 d.2.2.2.2.2.2.2.1 d.2.2.2.2.2.2.2.2.1 d.2.2.2.2.2.2.2.2.2.1 d.2.2.2.2.2.2.2.2.2.2.1 d.2.2.2.2.2.2.2.2.2.2.2.1 d.2.2.2.2.2.2.2.2.2.2.2.2.1 d.2.2.2.2.2.2.2.2.2.2.2.2.2.1 d.2.2.2.2.2.2.2.2.2.2.2.2.2.2.1 d.2.2.2.2.2.2.2.2.2.2.2.2.2.2.2.1 d.2.2.2.2.2.2.2.2.2.2.2.2.2.2.2.2.1 d.2.2.2.2.2.2.2.2.2.2.2.2.2.2.2.2.2.1 d.2.2.2.2.2.2.2.2.2.2.2.2.2.2.2.2.2.2.1 d.2.2.2.2.2.2.2.2.2.2.2.2.2.2.2.2.2.2.2.1 d.2.2.2.2.2.2.2.2.2.2.2.2.2.2.2.2.2.2.2.2.1 d.2.2.2.2.2.2.2.2.2.2.2.2.2.2.2.2.2.2.2.2.2.1 d.2.2.2.2.2.2.2.2.2.2.2.2.2.2.2.2.2.2.2.2.2.2.1 d.2.2.2.2.2.2.2.2.2.2.2.2.2.2.2.2.2.2.2.2.2.2.2.1 wj x.1 x.2.1 x.2.2.1 x.2.2.2.1=some (bif fZ d&&decide (d.2.2.2.2.2.2.2.2.2.2.2.2.2.2.2.2.2.2.2.1=wj) then r else d):=by
 unfold mS gO;delta ba az aP;rw [p2,Option.bind_some];rw [←hq] at Yh ⊢
 cases ho:decide (d.2.2.2.1=0)
 ·cases hj:decide (d.2.2.2.2.2.2.2.2.2.2.2.2.2.2.2.2.2.2.2.2.1=0)
  ·rfl
  ·rw [ho,hj] at Yh;simp only [Bool.not_false,cond_true,Option.bind_some,Bool.not_true,cond_false,k2,Bool.true_and]
   cases hb:jd d
   ·cases decide (d.2.2.2.1=wj)<;>rfl
   ·rw [hb] at Yh;have hc:decide (d.2.2.2.2.2.2.2.2.2.2.2.2.2.2.2.2.2.2.2.1=wj)=decide (d.2.2.2.1=wj):=by rw [Yh rfl]
    rw [hc]
    cases decide (d.2.2.2.1=wj)
    ·rfl
    ·simp only [Bool.not_true,cond_false,Bool.and_self,cond_true,c2,e2,Option.bind_some]
 ·rfl
theorem xt (d:bZ) (wj:Int) (x:dY) (h:ow d≤1048576):mM d.1 d.2.1 d.2.2.1 d.2.2.2.1 d.2.2.2.2.1 d.2.2.2.2.2.1 d.2.2.2.2.2.2.1 d.2.2.2.2.2.2.2.1 d.2.2.2.2.2.2.2.2.1 d.2.2.2.2.2.2.2.2.2.1 d.2.2.2.2.2.2.2.2.2.2.1 d.2.2.2.2.2.2.2.2.2.2.2.1 d.2.2.2.2.2.2.2.2.2.2.2.2.1 d.2.2.2.2.2.2.2.2.2.2.2.2.2.1 d.2.2.2.2.2.2.2.2.2.2.2.2.2.2.1 d.2.2.2.2.2.2.2.2.2.2.2.2.2.2.2.1 d.2.2.2.2.2.2.2.2.2.2.2.2.2.2.2.2.1 d.2.2.2.2.2.2.2.2.2.2.2.2.2.2.2.2.2.1 d.2.2.2.2.2.2.2.2.2.2.2.2.2.2.2.2.2.2.1 d.2.2.2.2.2.2.2.2.2.2.2.2.2.2.2.2.2.2.2.1 d.2.2.2.2.2.2.2.2.2.2.2.2.2.2.2.2.2.2.2.2.1 d.2.2.2.2.2.2.2.2.2.2.2.2.2.2.2.2.2.2.2.2.2.1 d.2.2.2.2.2.2.2.2.2.2.2.2.2.2.2.2.2.2.2.2.2.2.1 d.2.2.2.2.2.2.2.2.2.2.2.2.2.2.2.2.2.2.2.2.2.2.2.1 wj x.1 x.2.1 x.2.2.1 x.2.2.2.1=some (mV d wj x)∧mS d.1 d.2.1 d.2.2.1 d.2.2.2.1 d.2.2.2.2.1 d.2.2.2.2.2.1 d.2.2.2.2.2.2.1 d.2.2.2.2.2.2.2.1 d.2.2.2.2.2.2.2.2.1 d.2.2.2.2.2.2.2.2.2.1 d.2.2.2.2.2.2.2.2.2.2.1 d.2.2.2.2.2.2.2.2.2.2.2.1 d.2.2.2.2.2.2.2.2.2.2.2.2.1 d.2.2.2.2.2.2.2.2.2.2.2.2.2.1 d.2.2.2.2.2.2.2.2.2.2.2.2.2.2.1 d.2.2.2.2.2.2.2.2.2.2.2.2.2.2.2.1 d.2.2.2.2.2.2.2.2.2.2.2.2.2.2.2.2.1 d.2.2.2.2.2.2.2.2.2.2.2.2.2.2.2.2.2.1 d.2.2.2.2.2.2.2.2.2.2.2.2.2.2.2.2.2.2.1 d.2.2.2.2.2.2.2.2.2.2.2.2.2.2.2.2.2.2.2.1 d.2.2.2.2.2.2.2.2.2.2.2.2.2.2.2.2.2.2.2.2.1 d.2.2.2.2.2.2.2.2.2.2.2.2.2.2.2.2.2.2.2.2.2.1 d.2.2.2.2.2.2.2.2.2.2.2.2.2.2.2.2.2.2.2.2.2.2.1 d.2.2.2.2.2.2.2.2.2.2.2.2.2.2.2.2.2.2.2.2.2.2.2.1 wj x.1 x.2.1 x.2.2.1 x.2.2.2.1=some (mV d wj x):=by
 obtain ⟨k1,k2,_⟩:=j6 d h;obtain ⟨p1,p2⟩:=uJ d h;have hw:mq (aI d)≤1048576:=Nat.le_trans (XK d) h;obtain ⟨c1,c2⟩:=Qv (aI d) x hw;have hg:d.2.2.2.2.2.2.2.2.2.2.2.2.2.2.2.2.2.2.2.2.2.2.2.1.length≤1048576:=by unfold ow at h;omega
 obtain ⟨e1,e2⟩:=IJ (jU d (qU (aI d) x)) (Qw (aI d) x hw) hg;exact ⟨JA d wj x _ _ p1 (x4 d h) c1 e1,JB d wj x _ _ p2 k2 (CY d h) (fun hi=>(Oz d h hi).2.2.2.2.2) c2 e2⟩
end Go.TM
set_option linter.unusedSimpArgs false
set_option linter.unusedVariables false
namespace Go.TM
open Go
def XO {A B C:Type} (P:A→Prop):Sum A B→Sum A C→Prop
 |.inl a,.inl b=>a=b∧P a
 |_,_=>False
theorem Mt (eV:Int) (eW:Int) (cB:Int) (eH:Int) (eL:Int) (eb:List (Int×Unit)) (dI:Int) (ek:List (Int×Unit)) (bw:List (ByteArray×Unit)) (h0:List.length eb≤1048576):∃o0 o1 o2 o3 o4 o5 o6,sF eV eW cB eH eL eb dI ek bw=some (o0,o1,o2,o3,o4,o5,o6,())∧nR eV eW cB eH eL eb dI ek bw=some (o0,o1,o2,o3,o4,o5,o6,())∧o5=eb∧(List.length o6+wl dJ o6)≤1048576:=by
 obtain ⟨b,k1,k2,k3⟩:=wc eV eW cB eH eL eb (by omega);obtain ⟨c1,c2⟩:=mo eV eW cB eH eL eb (by omega);have hm:(if (3:Int)<((List.length bw:Nat):Int) then (3:Int) else ((List.length bw:Nat):Int))=((min 3 bw.length:Nat):Int):=by split<;>omega
 unfold sF nR;delta bA;simp only [k1,k2,c1,c2,mG,pS,Option.bind_some]
 cases b
 ·cases (decide (1≤dI)&&decide (dI≤5))
  ·exact ⟨_,_,_,_,_,eb,[],rfl,rfl,rfl,by decide⟩
  ·exact ⟨_,_,_,_,_,eb,[],rfl,rfl,rfl,by decide⟩
 cases (decide (1≤dI)&&decide (dI≤5))
 ·exact ⟨_,_,_,_,_,eb,[],rfl,rfl,rfl,by decide⟩
 obtain ⟨z1,z2,z3,z4,z5,z6⟩:=k3 rfl;have Yr:(bw.take (min 3 bw.length)).length=min 3 bw.length:=by simp
 simp only [Bool.not_true,cond_false,hm,aF,ax,cond_true,List.drop_zero,Yr,ak (show ((min 3 bw.length:Nat):Int)≤((List.length bw:Nat):Int) by omega)];obtain ⟨e,f,g1,g2,g3⟩:∃e f,aJ lB (dI,ek,bw,eV,eW,cB,eH,eL,eb,(0:Int),(0:Int),(0:Int),(0:Int),(0:Int),[],eV,eW,cB,eH,eL,eb,[],(0:Int),())=some e∧
   aJ fw (dI,ek,eV,eW,cB,eH,eL,eb,(0:Int),(0:Int),(0:Int),(0:Int),(0:Int),[],eV,eW,cB,eH,eL,eb,[],bw.take (min 3 bw.length),((min 3 bw.length:Nat):Int),(0:Int),())=some f∧
   XO (fun v=>∃(q:Int) (l:aV),v=(eV,eW,cB,eH,eL,eb,(0:Int),(0:Int),(0:Int),(0:Int),(0:Int),[],eV,eW,q,eH,eL,eb,l,())∧l.length≤3∧wl dJ l≤180) e f:=by
  refine qj 3 (fun k x y=>∃l:aV,x=(dI,ek,bw,eV,eW,cB,eH,eL,eb,(0:Int),(0:Int),(0:Int),(0:Int),(0:Int),[],eV,eW,cB+((k:Nat):Int),eH,eL,eb,l,((k:Nat):Int),())∧
   y=(dI,ek,eV,eW,cB,eH,eL,eb,(0:Int),(0:Int),(0:Int),(0:Int),(0:Int),[],eV,eW,cB+((k:Nat):Int),eH,eL,eb,l,bw.take (min 3 bw.length),((min 3 bw.length:Nat):Int),((k:Nat):Int),())∧l.length=k∧wl dJ l≤60*k) _ ?_ ⟨[],by rw [show cB+((0:Nat):Int)=cB by omega];rfl,by rw [show cB+((0:Nat):Int)=cB by omega];rfl,rfl,Nat.le_refl _⟩
  rintro k x y hk ⟨l,rfl,rfl,q1,q2⟩
  have stop:∀ {A B:Type} (u:Sum _ A) (v:Sum _ B),u=.inl (eV,eW,cB,eH,eL,eb,(0:Int),(0:Int),(0:Int),(0:Int),(0:Int),([]:List (Int×Unit)),eV,eW,cB+((k:Nat):Int),eH,eL,eb,l,())→v=.inl (eV,eW,cB,eH,eL,eb,(0:Int),(0:Int),(0:Int),(0:Int),(0:Int),([]:List (Int×Unit)),eV,eW,cB+((k:Nat):Int),eH,eL,eb,l,())→
    XO (fun v=>∃(q:Int) (l:aV),v=(eV,eW,cB,eH,eL,eb,(0:Int),(0:Int),(0:Int),(0:Int),(0:Int),([]:List (Int×Unit)),eV,eW,q,eH,eL,eb,l,())∧l.length≤3∧wl dJ l≤180) u v:=by
   intro A B u v e1 e2;subst e1 e2;exact ⟨rfl,_,l,rfl,by omega,by omega⟩
  by_cases h1:k<bw.length
  ·by_cases h4:k<3
   ·have hmk:k<min 3 bw.length:=by omega
    have I7:(bw.take (min 3 bw.length))[k]?=some bw[k]:=by rw [List.getElem?_take_of_lt hmk];exact List.getElem?_eq_getElem h1
    have e1:IntKind.i64.wrap ((cB+((k:Nat):Int))+(1:Int))=cB+((k+1:Nat):Int):=by rw [cD]<;>omega
    simp only [lB,ba,aP,qt,fw,az,iF,aE h1,aE hmk,ak (show ((k:Nat):Int)<(3:Int) by omega),ax,cond_true,aF,List.getElem?_eq_getElem h1,I7,Option.bind_some,e1,aT (show (l.length+1)*40≤lim by unfold lim;omega),aN (show k<4611686018427387904 by omega)]
    by_cases h5:cB+((k:Nat):Int)<60
    ·rw [ak h5,aq (show ¬(60:Int)≤cB+((k:Nat):Int) by omega)]
     by_cases h6:((ByteArray.size bw[k].1:Nat):Int)≤60
     ·rw [ak h6,aq (show ¬(60:Int)<((ByteArray.size bw[k].1:Nat):Int) by omega)];have add:∀lv:Int,wl dJ (l++[(cB+((k+1:Nat):Int),dI,lv,bw[k].1,())])≤60*(k+1):=by
       intro lv;rw [HG];have:wl dJ [(cB+((k+1:Nat):Int),dI,lv,bw[k].1,())]=ByteArray.size bw[k].1:=rfl;omega
      by_cases h7:k<ek.length
      ·rw [aE h7];simp only [cond_true,cond_false,List.getElem?_eq_getElem h7,Option.bind_some]
       cases decide (ek[k].1=2)
       ·exact .inr ⟨h4,_,_,rfl,rfl,_,rfl,rfl,by simp [q1],add 1⟩
       ·exact .inr ⟨h4,_,_,rfl,rfl,_,rfl,rfl,by simp [q1],add 2⟩
      ·rw [aq (show ¬((k:Nat):Int)<((List.length ek:Nat):Int) by omega)];exact .inr ⟨h4,_,_,rfl,rfl,_,rfl,rfl,by simp [q1],add 1⟩
     ·rw [aq h6,ak (show (60:Int)<((ByteArray.size bw[k].1:Nat):Int) by omega)];exact .inl ⟨_,_,rfl,rfl,stop _ _ rfl rfl⟩
    ·rw [aq h5,ak (show (60:Int)≤cB+((k:Nat):Int) by omega)];exact .inl ⟨_,_,rfl,rfl,stop _ _ rfl rfl⟩
   ·have hk3:k=3:=by omega
    refine .inl ⟨_,_,?_,?_,stop _ _ rfl rfl⟩
    ·simp only [lB,ba,aP,qt,aE h1,aq (show ¬((k:Nat):Int)<(3:Int) by omega),cond_true,cond_false]
    ·simp only [fw,az,iF,aq (show ¬((k:Nat):Int)<((min 3 bw.length:Nat):Int) by omega),cond_false]
  ·refine .inl ⟨_,_,?_,?_,stop _ _ rfl rfl⟩
   ·simp only [lB,ba,aP,qt,aq (show ¬((k:Nat):Int)<((List.length bw:Nat):Int) by omega),cond_false]
   ·simp only [fw,az,iF,aq (show ¬((k:Nat):Int)<((min 3 bw.length:Nat):Int) by omega),cond_false]
 rw [g1,g2]
 cases e with
 |inr e=>exact g3.elim
 |inl e=>cases f with
  |inr f=>exact g3.elim
  |inl f=>
   obtain ⟨rfl,q,l,rfl,q1,q2⟩:=g3;simp only [kD]
   cases decide (eH=cB)
   ·exact ⟨_,_,_,_,_,eb,l,rfl,rfl,rfl,by omega⟩
   ·cases decide (eL=0)
    ·exact ⟨_,_,_,_,_,eb,l,rfl,rfl,rfl,by omega⟩
    ·exact ⟨_,_,_,_,_,eb,l,rfl,rfl,rfl,by omega⟩
end Go.TM
set_option linter.unusedSimpArgs false
set_option linter.unusedVariables false
namespace Go.TM
open Go
def GP (c2 from_:Int) (level:List (Int×Unit)) (texts:List (ByteArray×Unit)) (j:Nat):dY:=
 (c2+((j+1:Nat):Int),from_,(bif decide (j<level.length)&&decide ((level.getD j ((0:Int),())).1=2) then 2 else 1),(texts.getD j (ByteArray.empty,())).1,())
def iI (c2 from_:Int) (level:List (Int×Unit)) (texts:List (ByteArray×Unit)) (m:Nat):aV:=(List.range m).map (GP c2 from_ level texts)
theorem zI (c2 from_:Int) (level:List (Int×Unit)) (texts:List (ByteArray×Unit)) (m:Nat):(iI c2 from_ level texts m).length=m:=by simp [iI]
theorem JC (c2 from_:Int) (level:List (Int×Unit)) (texts:List (ByteArray×Unit)) (m:Nat):iI c2 from_ level texts (m+1)=iI c2 from_ level texts m++[GP c2 from_ level texts m]:=by
 unfold iI;rw [List.range_succ,List.map_append];rfl
def GQ (c2:Int) (texts:List (ByteArray×Unit)) (m:Nat):Prop:=m=min 3 texts.length∨60≤c2+((m:Nat):Int)∨∃h:m<texts.length,60<ByteArray.size texts[m].1
theorem QE (eV:Int) (eW:Int) (cB:Int) (eH:Int) (eL:Int) (eb:List (Int×Unit)) (dI:Int) (ek:List (Int×Unit)) (bw:List (ByteArray×Unit)) (h0:List.length eb≤1048576) (h3:List.length bw≤1048576) (hd:1≤dI∧dI≤5) (ht:agn eV eW cB eH eL eb) :
  ∃m t3,nR eV eW cB eH eL eb dI ek bw=some (eV,eW,cB+((m:Nat):Int),t3,eL,eb,iI cB dI ek bw m,())∧m≤3∧m≤bw.length∧cB+((m:Nat):Int)≤60∧(t3=eH∨t3=cB+((m:Nat):Int))∧GQ cB bw m∧t3=(if eH=cB∧eL=0 then cB+((m:Nat):Int) else eH):=by
 obtain ⟨b,_,k2,k3⟩:=K7 eV eW cB eH eL eb h0;have hb:=k3.2 ht;subst hb;obtain ⟨_,c2⟩:=mo eV eW cB eH eL eb h0;obtain ⟨_,_,z2,z3,_⟩:=ht;have hm:(if (3:Int)<((List.length bw:Nat):Int) then (3:Int) else ((List.length bw:Nat):Int))=((min 3 bw.length:Nat):Int):=by split<;>omega
 have Yr:(bw.take (min 3 bw.length)).length=min 3 bw.length:=by simp
 unfold nR;delta bA;simp only [k2,c2,pS,ak hd.1,ak hd.2,Bool.and_self,Option.bind_some,Bool.not_true,cond_false,hm,aF,ax,cond_true,List.drop_zero,Yr,ak (show ((min 3 bw.length:Nat):Int)≤((List.length bw:Nat):Int) by omega)];have fin:∀(k:Nat),∃v:Int×Int×Int×Int×Int×(List (Int×Unit))×Int×Int×Int×Int×Int×(List (Int×Unit))×Int×Int×Int×Int×Int×(List (Int×Unit))×aV×Unit,v=(eV,eW,cB,eH,eL,eb,(0:Int),(0:Int),(0:Int),(0:Int),(0:Int),[],eV,eW,cB+((k:Nat):Int),eH,eL,eb,iI cB dI ek bw k,()):=fun k=>⟨_,rfl⟩
 obtain ⟨e,g1,m,g2,g3,g4,g5,g6⟩:∃e,aJ fw (dI,ek,eV,eW,cB,eH,eL,eb,(0:Int),(0:Int),(0:Int),(0:Int),(0:Int),[],eV,eW,cB,eH,eL,eb,[],bw.take (min 3 bw.length),((min 3 bw.length:Nat):Int),(0:Int),())=some e∧
   ∃m:Nat,e=.inl (eV,eW,cB,eH,eL,eb,(0:Int),(0:Int),(0:Int),(0:Int),(0:Int),[],eV,eW,cB+((m:Nat):Int),eH,eL,eb,iI cB dI ek bw m,())∧m≤3∧m≤bw.length∧cB+((m:Nat):Int)≤60∧GQ cB bw m:=by
  refine dG (min 3 bw.length) (fun k x=>x=(dI,ek,eV,eW,cB,eH,eL,eb,(0:Int),(0:Int),(0:Int),(0:Int),(0:Int),[],eV,eW,cB+((k:Nat):Int),eH,eL,eb,iI cB dI ek bw k,bw.take (min 3 bw.length),((min 3 bw.length:Nat):Int),((k:Nat):Int),())∧cB+((k:Nat):Int)≤60) _ ?_ ?_ ⟨by rw [show cB+((0:Nat):Int)=cB by omega];rfl,by omega⟩
  ·rintro x ⟨rfl,q⟩
   exact ⟨_,by simp only [fw,az,iF,aM,cond_false],_,rfl,by omega,by omega,q,.inl rfl⟩
  ·rintro k x hmk ⟨rfl,q⟩
   have h1:k<bw.length:=by omega
   have I7:(bw.take (min 3 bw.length))[k]?=some bw[k]:=by rw [List.getElem?_take_of_lt hmk];exact List.getElem?_eq_getElem h1
   have hgt:(bw.getD k (ByteArray.empty,())).1=bw[k].1:=by rw [List.getD_eq_getElem?_getD,List.getElem?_eq_getElem h1,Option.getD_some]
   have stop:GQ cB bw k→∃m:Nat,(.inl (eV,eW,cB,eH,eL,eb,(0:Int),(0:Int),(0:Int),(0:Int),(0:Int),[],eV,eW,cB+((k:Nat):Int),eH,eL,eb,iI cB dI ek bw k,()):Sum _ Unit)=.inl (eV,eW,cB,eH,eL,eb,(0:Int),(0:Int),(0:Int),(0:Int),(0:Int),([]:List (Int×Unit)),eV,eW,cB+((m:Nat):Int),eH,eL,eb,iI cB dI ek bw m,())∧m≤3∧m≤bw.length∧cB+((m:Nat):Int)≤60∧GQ cB bw m:=
    fun hq=>⟨k,rfl,by omega,by omega,q,hq⟩
   by_cases h5:(60:Int)≤cB+((k:Nat):Int)
   ·refine .inl ⟨_,?_,stop (.inr (.inl h5))⟩;simp only [fw,az,iF,aE hmk,ax,cond_true,aF,I7,Option.bind_some,ak h5]
   have e1:IntKind.i64.wrap ((cB+((k:Nat):Int))+(1:Int))=cB+((k+1:Nat):Int):=by rw [cD]<;>omega
   by_cases h6:(60:Int)<((ByteArray.size bw[k].1:Nat):Int)
   ·refine .inl ⟨_,?_,stop (.inr (.inr ⟨h1,by omega⟩))⟩;simp only [fw,az,iF,aE hmk,ax,cond_true,cond_false,aF,I7,Option.bind_some,aq h5,ak h6]
   refine .inr ⟨_,?_,rfl,by omega⟩;have hlen:=zI cB dI ek bw k;simp only [fw,az,iF,aE hmk,ax,cond_true,cond_false,aF,I7,Option.bind_some,aq h5,aq h6,e1,hlen,aT (show (k+1)*40≤lim by unfold lim;omega),aN (show k<4611686018427387904 by omega)];rw [JC];unfold GP;rw [hgt]
   by_cases h7:k<ek.length
   ·have hgl:ek.getD k ((0:Int),())=ek[k]:=by rw [List.getD_eq_getElem?_getD,List.getElem?_eq_getElem h7,Option.getD_some]
    rw [aE h7,ak h7,hgl];simp only [cond_true,List.getElem?_eq_getElem h7,Option.bind_some,Bool.true_and]
    cases decide (ek[k].1=2)<;>rfl
   ·rw [aq (show ¬((k:Nat):Int)<((List.length ek:Nat):Int) by omega),aq h7];rfl
 rw [g1];subst g2;simp only [kD]
 by_cases w1:eH=cB
 ·rw [ak w1]
  by_cases w2:eL=0
  ·rw [ak w2];exact ⟨m,_,rfl,g3,g4,g5,.inr rfl,g6,by rw [if_pos ⟨w1,w2⟩]⟩
  ·rw [aq w2];exact ⟨m,_,rfl,g3,g4,g5,.inl rfl,g6,by rw [if_neg (fun h=>w2 h.2)]⟩
 ·rw [aq w1];exact ⟨m,_,rfl,g3,g4,g5,.inl rfl,g6,by rw [if_neg (fun h=>w1 h.1)]⟩
end Go.TM
set_option linter.unusedSimpArgs false
set_option linter.unusedVariables false
namespace Go.TM
open Go
def Gj (c2 c3 c4 d a:Int):Int:=if a<c3 then a else if c4=d then (if c2<a then c2 else a) else c3
def Gk (c2 c3 c4 d a:Int):Int:=if a<c3 then d else if c4=d then (if c2≤a then 0 else c4) else c4
theorem XP (c0 c1 c2 c3 c4:Int) (xs:List (Int×Unit)) (d a:Int) (h:xs.length≤1048576) {b:Bool} (hb:eZ c0 c1 c2 c3 c4 xs=some (b,())) :
  ∃t3 t4,xL c0 c1 c2 c3 c4 xs d a=some (c0,c1,c2,t3,t4,xs,())∧xT c0 c1 c2 c3 c4 xs d a=some (c0,c1,c2,t3,t4,xs,())∧
   (b=false∨d<1∨5<d∨a<0→t3=c3∧t4=c4)∧(b=true→1≤d→d≤5→0≤a→0≤c3→c3≤c2→0≤t3∧t3≤c2∧t3≤a∧(t3≤c3∨c4=d)∧(t4=c4∨t4=d∨(t4=0∧c4=d)))∧(b=true→1≤d→d≤5→0≤a→t3=Gj c2 c3 c4 d a∧t4=Gk c2 c3 c4 d a):=by
 obtain ⟨b',h1,h2,_⟩:=wc c0 c1 c2 c3 c4 xs h;rw [hb] at h1;obtain rfl:b=b':=by injection h1 with h1;injection h1
 obtain ⟨h3,h4⟩:=mo c0 c1 c2 c3 c4 xs h;unfold xL xT;simp only [Option.bind_some,hb,h2,h3,h4,mG,pS]
 cases b
 ·have:∀t3 t4:Int,t3=c3→t4=c4→(false=false∨d<1∨5<d∨a<0→t3=c3∧t4=c4)∧(false=true→1≤d→d≤5→0≤a→0≤c3→c3≤c2→0≤t3∧t3≤c2∧t3≤a∧(t3≤c3∨c4=d)∧(t4=c4∨t4=d∨(t4=0∧c4=d)))∧(false=true→1≤d→d≤5→0≤a→t3=Gj c2 c3 c4 d a∧t4=Gk c2 c3 c4 d a):=
   fun t3 t4 e1 e2=>⟨fun _=>⟨e1,e2⟩,(fun h=>by cases h),(fun h=>by cases h)⟩
  cases (decide (1≤d)&&decide (d≤5))
  ·exact ⟨_,_,rfl,rfl,this _ _ rfl rfl⟩
  cases decide (a<0)
  ·exact ⟨_,_,rfl,rfl,this _ _ rfl rfl⟩
  ·exact ⟨_,_,rfl,rfl,this _ _ rfl rfl⟩
 by_cases hd:1≤d∧d≤5
 ·rw [ak hd.1,ak hd.2]
  by_cases ha:a<0
  ·rw [ak ha];exact ⟨_,_,rfl,rfl,(fun _=>⟨rfl,rfl⟩),(fun _ _ _ h=>by omega),(fun _ _ _ h=>by omega)⟩
  rw [aq ha];have no:∀ {A:Prop},(true=false∨d<1∨5<d∨a<0)→A:=by
   rintro A (h | h | h | h)
   ·cases h
   ·omega
   ·omega
   ·omega
  by_cases h5:a<c3
  ·rw [ak h5];exact ⟨_,_,rfl,rfl,no,(fun _ _ _ _ _ _=>⟨by omega,by omega,by omega,.inl (by omega),.inr (.inl rfl)⟩),fun _ _ _ _=>by unfold Gj Gk;rw [if_pos h5,if_pos h5];exact ⟨rfl,rfl⟩⟩
  rw [aq h5]
  by_cases h6:c4=d
  ·rw [ak h6]
   by_cases h7:c2<a
   ·rw [ak h7,if_pos h7,ak (show c2=c2 from rfl)];exact ⟨_,_,rfl,rfl,no,(fun _ _ _ _ _ _=>⟨by omega,by omega,by omega,.inr h6,.inr (.inr ⟨rfl,h6⟩)⟩),fun _ _ _ _=>by unfold Gj Gk;rw [if_neg h5,if_neg h5,if_pos h6,if_pos h6,if_pos h7,if_pos (by omega)];exact ⟨rfl,rfl⟩⟩
   ·rw [aq h7,if_neg h7]
    by_cases h8:a=c2
    ·rw [ak h8];exact ⟨_,_,rfl,rfl,no,(fun _ _ _ _ _ _=>⟨by omega,by omega,by omega,.inr h6,.inr (.inr ⟨rfl,h6⟩)⟩),fun _ _ _ _=>by unfold Gj Gk;rw [if_neg h5,if_neg h5,if_pos h6,if_pos h6,if_neg h7,if_pos (by omega)];exact ⟨rfl,rfl⟩⟩
    ·rw [aq h8];exact ⟨_,_,rfl,rfl,no,(fun _ _ _ _ _ _=>⟨by omega,by omega,by omega,.inr h6,.inl rfl⟩),fun _ _ _ _=>by unfold Gj Gk;rw [if_neg h5,if_neg h5,if_pos h6,if_pos h6,if_neg h7,if_neg (by omega)];exact ⟨rfl,rfl⟩⟩
  ·rw [aq h6];exact ⟨_,_,rfl,rfl,no,(fun _ _ _ _ _ _=>⟨by omega,by omega,by omega,.inl (by omega),.inl rfl⟩),fun _ _ _ _=>by unfold Gj Gk;rw [if_neg h5,if_neg h5,if_neg h6,if_neg h6];exact ⟨rfl,rfl⟩⟩
 ·have e:(decide (1≤d)&&decide (d≤5))=false:=by
   cases hq:(decide (1≤d)&&decide (d≤5))
   ·rfl
   ·rw [Bool.and_eq_true,decide_eq_true_eq,decide_eq_true_eq] at hq;exact absurd hq hd
  rw [e];exact ⟨_,_,rfl,rfl,(fun _=>⟨rfl,rfl⟩),(fun _ h1 h2=>absurd ⟨h1,h2⟩ hd),(fun _ h1 h2=>absurd ⟨h1,h2⟩ hd)⟩
end Go.TM
set_option linter.unusedSimpArgs false
set_option linter.unusedVariables false
namespace Go.TM
open Go
theorem Mv (d:Int) (xs:List (Int×Unit)) (h:xs.length≤1048576):dx xs d=some (decide (d∈cu xs),()):=by
 obtain ⟨e,he,hq⟩:=dG (round:=eQ) (x:=(xs,d,((0:Nat):Int),())) xs.length (fun k x=>x=(xs,d,((k:Nat):Int),())∧d∉cu (xs.take k)) (fun e=>(e=.inl ()∧d∉cu xs)∨(e=.inr (true,())∧d∈cu xs)) (by
   rintro x ⟨rfl,g⟩
   rw [List.take_length] at g;exact ⟨.inl (),by simp only [eQ,kW,aM,cond_false],.inl ⟨rfl,g⟩⟩) (by
   rintro k x hk ⟨rfl,g⟩
   simp only [eQ,kW,aE hk,ax,cond_true,aF,List.getElem?_eq_getElem hk,Option.bind_some,aN (show k<4611686018427387904 by omega)]
   by_cases e:xs[k].1=d
   ·rw [ak e];exact .inl ⟨_,rfl,.inr ⟨rfl,by rw [←e];exact List.mem_map_of_mem (List.getElem_mem hk)⟩⟩
   ·rw [aq e];refine .inr ⟨_,rfl,rfl,?_⟩;rw [List.take_succ_eq_append_getElem hk];unfold cu at g ⊢;rw [List.map_append,List.mem_append]
    rintro (h1 | h1)
    ·exact g h1
    ·simp only [List.map_cons,List.map_nil,List.mem_singleton] at h1;exact e h1.symm) ⟨rfl,by simp [cu]⟩
 have he:aJ eQ (xs,d,(0:Int),())=some e:=he;unfold dx;rw [he];rcases hq with ⟨rfl,g⟩ | ⟨rfl,g⟩
 ·rw [aq g];rfl
 ·rw [ak g];rfl
theorem Mw (d:Int) (xs:List (Int×Unit)) (h:xs.length≤1048576):cN xs d=some (decide (d∈cu xs),()):=by
 obtain ⟨b,h1,h2⟩:=ph d xs h;rw [Mv d xs h] at h1;injection h1 with h1;injection h1 with h1 _;rw [h2,h1]
def hasB (list:aV) (s:Int):Bool:=(fx list s).isSome
theorem Bq (o:Option dY):(qR o).2.2.2.2.1=o.isSome:=by cases o<;>rfl
def Mx {B C:Type} (list:aV) (u:Int):Sum ((List (Int×Unit))×Unit) B→Sum ((List (Int×Unit))×Unit) C→Prop
 |.inl a,.inl b=>a=b∧∃ms:List Int,a.1=bE ms∧ms.length≤20∧∀s∈ms,1≤s∧s≤u∧hasB list s=false
 |_,_=>False
theorem Ek (list:aV) (upto u:Int) (n:Nat) (h:list.length≤1048576) (hn:n≤1048576) (hu:(if (60:Int)<upto then (60:Int) else upto)=u) (awp:u≤60) :
  ∃e f,aJ iV (list,u,[],((n+1:Nat):Int),())=some e∧aJ kx (list,upto,[],((n+1:Nat):Int),())=some f∧Mx list u e f:=by
 refine qj 61 (fun k x y=>∃ms:List Int,x=(list,u,bE ms,((n+1+k:Nat):Int),())∧y=(list,upto,bE ms,((n+1+k:Nat):Int),())∧ms.length≤20∧∀s∈ms,1≤s∧s≤u∧hasB list s=false) (Mx list u) ?_ ⟨[],rfl,rfl,by simp,fun s hs=>by cases hs⟩
 rintro k x y hk ⟨ms,rfl,rfl,q1,q2⟩
 have stop:Mx (B:=Unit) (C:=Unit) list u (.inl (bE ms,())) (.inl (bE ms,())):=⟨rfl,ms,rfl,q1,q2⟩
 by_cases dM:((n+1+k:Nat):Int)≤u
 case neg=>
  refine .inl ⟨.inl (bE ms,()),.inl (bE ms,()),?_,?_,⟨rfl,ms,rfl,q1,q2⟩⟩
  ·simp only [iV,aw,pq,aq dM,cond_false]
  ·simp only [kx,aw,pv,hu,aq dM,cond_false]
 by_cases h20:((List.length (bE ms):Nat):Int)<20
 case neg=>
  refine .inl ⟨.inl (bE ms,()),.inl (bE ms,()),?_,?_,⟨rfl,ms,rfl,q1,q2⟩⟩
  ·simp only [iV,aw,pq,ak dM,aq h20,cond_true,cond_false]
  ·simp only [kx,aw,pv,hu,ak dM,aq h20,cond_true,cond_false]
 have hl:(bE ms).length=ms.length:=ea ms;simp only [iV,aw,pq,kx,aw,pv,hu,ak dM,ak h20,cond_true,wR list _ h,wS list _ h,Option.bind_some,Bq,aT (show ((bE ms).length+1)*8≤lim by unfold lim;omega),aN (show n+1+k<4611686018427387904 by omega)]
 cases hh:(fx list ((n+1+k:Nat):Int)).isSome
 ·refine .inr ⟨by omega,_,_,rfl,rfl,ms++[((n+1+k:Nat):Int)],by simp [bE];omega,by simp [bE];omega,by simp;omega,fun s hs => ?_⟩;rcases List.mem_append.1 hs with hs | hs
  ·exact q2 s hs
  ·rw [List.mem_singleton] at hs;subst hs;exact ⟨by omega,by omega,hh⟩
 ·exact .inr ⟨by omega,_,_,rfl,rfl,ms,by rw [show n+1+k+1=n+1+(k+1) by omega],by rw [show n+1+k+1=n+1+(k+1) by omega],q1,q2⟩
theorem OA (list:aV) (upto:Int) (h:list.length≤1048576):∃ms:List Int,qu list upto=some (bE ms,())∧qN list upto=some (bE ms,())∧ms.length≤20∧∀s∈ms,1≤s∧(s≤60∧s≤upto)∧hasB list s=false:=by
 obtain ⟨n,a1,a2,a3,_⟩:=Eb list h;have hw:IntKind.i64.wrap (((n:Nat):Int)+(1:Int))=((n+1:Nat):Int):=aN (by omega);unfold qu qN;simp only [a1,a2,Option.bind_some,hw]
 by_cases hu:(60:Int)<upto
 ·obtain ⟨e,f,g1,g2,g3⟩:=Ek list upto 60 n h (by omega) (if_pos hu) (by omega);rw [ak hu];simp only [cond_true,g1,g2]
  cases e with
  |inr e=>exact g3.elim
  |inl e=>cases f with
   |inr f=>exact g3.elim
   |inl f=>
    obtain ⟨rfl,ms,k1,k2,k3⟩:=g3;simp only [kD];exact ⟨ms,by rw [k1],by rw [k1],k2,fun s hs=>⟨(k3 s hs).1,⟨(k3 s hs).2.1,by have:=(k3 s hs).2.1;omega⟩,(k3 s hs).2.2⟩⟩
 ·obtain ⟨e,f,g1,g2,g3⟩:=Ek list upto upto n h (by omega) (if_neg hu) (by omega);rw [aq hu];simp only [cond_false,g1,g2]
  cases e with
  |inr e=>exact g3.elim
  |inl e=>cases f with
   |inr f=>exact g3.elim
   |inl f=>
    obtain ⟨rfl,ms,k1,k2,k3⟩:=g3;simp only [kD];exact ⟨ms,by rw [k1],by rw [k1],k2,fun s hs=>⟨(k3 s hs).1,⟨by have:=(k3 s hs).2.1;omega,(k3 s hs).2.1⟩,(k3 s hs).2.2⟩⟩
theorem IK:∀(a b:List Int),a.Pairwise (· < ·)→b.Pairwise (· < ·)→(∀x,x∈a↔x∈b)→a=b
 | [],[],_,_,_=>rfl
 | [],y::b,_,_,h=>absurd ((h y).2 List.mem_cons_self) (by simp)
 |x::a,[],_,_,h=>absurd ((h x).1 List.mem_cons_self) (by simp)
 |x::a,y::b,ha,hb,h=>by
  rw [List.pairwise_cons] at ha hb;have hxy:x=y:=by
   rcases List.mem_cons.1 ((h x).1 List.mem_cons_self) with e | e
   ·exact e
   ·have h1:=hb.1 x e;rcases List.mem_cons.1 ((h y).2 List.mem_cons_self) with e2 | e2
    ·exact e2.symm
    ·have h2:=ha.1 y e2;omega
  subst hxy
  congr 1
  refine IK a b ha.2 hb.2 fun z=>⟨fun hz => ?_,fun hz => ?_⟩
  ·rcases List.mem_cons.1 ((h z).1 (List.mem_cons_of_mem _ hz)) with e | e
   ·have:=ha.1 z hz;omega
   ·exact e
  ·rcases List.mem_cons.1 ((h z).2 (List.mem_cons_of_mem _ hz)) with e | e
   ·have:=hb.1 z hz;omega
   ·exact e
theorem ZI (l:List Int):(l.mergeSort fun x y=>decide (x≤y)).Pairwise (· ≤ ·):=by
 have:=List.pairwise_mergeSort (le:=fun x y:Int=>decide (x≤y)) (fun a b c h1 h2=>by simp only [decide_eq_true_eq] at *;omega) (fun a b=>by simp only [Bool.or_eq_true,decide_eq_true_eq];omega) l;exact this.imp fun h=>by simpa using h
theorem XQ (l:List Int) (x:Int):x∈(l.mergeSort fun x y=>decide (x≤y))↔x∈l:=(List.mergeSort_perm l _).mem_iff
theorem x5 (l:List Int) (j:Nat) (h:j<l.length):l.toArray[j]! = l[j]:=by
 rw [getElem!_pos l.toArray j (by simpa using h)];simp
theorem IL (l:List Int) (h:l.Pairwise (· ≤ ·)):(Lib.compact l).Pairwise (· < ·):=by
 unfold Lib.compact Lib.compactUpTo;rw [List.pairwise_map];have hr:((List.range l.length).filter (Lib.keeps l.toArray)).Pairwise (· < ·):=List.Pairwise.filter _ List.pairwise_lt_range;refine hr.imp_of_mem fun {i j} hi hj Yi => ?_
 obtain ⟨hi1,_⟩:=List.mem_filter.1 hi;obtain ⟨Yn,VY⟩:=List.mem_filter.1 hj;have hi1:=List.mem_range.1 hi1;have Yn:=List.mem_range.1 Yn;have hk:l.toArray[j]! ≠ l.toArray[j-1]! := by
  unfold Lib.keeps at VY;rw [decide_eq_true_eq] at VY;exact VY.resolve_left (by omega)
 have hp:=List.pairwise_iff_getElem.1 h;have h1:=hp (j-1) j (by omega) Yn (by omega);rw [x5 l j Yn,x5 l (j-1) (by omega)] at hk;rw [x5 l i hi1,x5 l j Yn]
 by_cases e:i=j-1
 ·subst e;omega
 ·have h2:=hp i (j-1) hi1 (by omega) (by omega);omega
theorem OB (l:List Int) (x:Int):x∈Lib.compact l↔x∈l:=by
 unfold Lib.compact Lib.compactUpTo;rw [List.mem_map]
 constructor
 ·rintro ⟨j,hj,rfl⟩
  have Yn:=List.mem_range.1 (List.mem_filter.1 hj).1;rw [x5 l j Yn];exact List.getElem_mem Yn
 ·intro hx;have key:∀j,j<l.length→∃i,i∈(List.range l.length).filter (Lib.keeps l.toArray)∧l.toArray[i]! = l.toArray[j]! := by
   intro j
   induction j with
   |zero=>intro h0;exact ⟨0,List.mem_filter.2 ⟨List.mem_range.2 h0,by simp [Lib.keeps]⟩,rfl⟩
   |succ j ih=>
    intro hj
    by_cases e:l.toArray[j+1]! = l.toArray[j]!
    ·obtain ⟨i,h1,h2⟩:=ih (by omega);exact ⟨i,h1,by rw [h2,e]⟩
    ·exact ⟨j+1,List.mem_filter.2 ⟨List.mem_range.2 hj,by unfold Lib.keeps;rw [decide_eq_true_eq,Nat.add_sub_cancel];exact .inr e⟩,rfl⟩
  obtain ⟨j,hj,rfl⟩:=List.mem_iff_getElem.1 hx;obtain ⟨i,h1,h2⟩:=key j hj;exact ⟨i,h1,by rw [h2,x5 l j hj]⟩
def ints (n:Nat):List Int:=(List.range n).map fun i=>((i+1:Nat):Int)
theorem Lf (n:Nat):ints (n+1)=ints n++[((n+1:Nat):Int)]:=by
 unfold ints;rw [List.range_succ,List.map_append];rfl
theorem XR (n:Nat) (x:Int):x∈ints n↔1≤x∧x≤((n:Nat):Int):=by
 unfold ints;rw [List.mem_map]
 constructor
 ·rintro ⟨i,hi,rfl⟩
  have:=List.mem_range.1 hi;omega
 ·rintro ⟨h1,h2⟩
  exact ⟨(x-1).toNat,List.mem_range.2 (by omega),by omega⟩
theorem Gl (n:Nat):(ints n).Pairwise (· < ·):=by
 unfold ints;rw [List.pairwise_map];exact List.pairwise_lt_range.imp fun h=>by omega
theorem IM:∀(k d:Nat),∃r,ints (k+d)=ints k++r
 |k,0=>⟨[],by simp⟩
 |k,d+1=>by
  obtain ⟨r,h⟩:=IM k d;exact ⟨r++[((k+d+1:Nat):Int)],by rw [show k+(d+1)=(k+d)+1 by omega,Lf,h,List.append_assoc]⟩
theorem QF (a b:List Int):bE (a++b)=bE a++bE b:=by simp [bE]
theorem OC (a:List Int) (n:Nat):bE (a.take n)=(bE a).take n:=by simp [bE,List.map_take]
theorem sv (a:List Int):cu (bE a)=a:=by simp [cu,bE,Function.comp_def]
def jv (list:aV) (xs:List (Int×Unit)) (ms:List Int) (s:Int):Bool:=(!hasB list s&&decide (s∈cu xs))||decide (s∈ms)
def mH (list:aV) (xs:List (Int×Unit)) (ms:List Int):List Int:=((ints 60).filter (jv list xs ms)).take 20
abbrev aaN:Type:=aV×Int×Int×Int×Int×Int×(List (Int×Unit))×Int×Int×Int×Int×Int×(List (Int×Unit))×Int×Int×Int×Int×Int×(List (Int×Unit))×(List (Int×Unit))×Int×Unit
theorem QG (t0 t1 t2 t3 t4:Int) (xs:List (Int×Unit)) (list:aV) (ms:List Int) (h:list.length≤1048576) (hx:xs.length≤1048576) (hm:qu list t2=some (bE ms,())) (hms:ms.length≤20) :
  eJ t0 t1 t2 t3 t4 xs list=some (t0,t1,t2,t3,t4,bE (mH list xs ms),()):=by
 have Yr:(bE ms).length≤1048576:=by rw [ea];omega
 obtain ⟨e,he,rfl⟩:=dG (round:=mJ) (x:=(list,t0,t1,t2,t3,t4,xs,(0:Int),(0:Int),(0:Int),(0:Int),(0:Int),[],t0,t1,t2,t3,t4,[],bE ms,((0+1:Nat):Int),())) 60
  (fun k x=>x=(list,t0,t1,t2,t3,t4,xs,(0:Int),(0:Int),(0:Int),(0:Int),(0:Int),[],t0,t1,t2,t3,t4,bE ((ints k).filter (jv list xs ms)),bE ms,((k+1:Nat):Int),())∧((ints k).filter (jv list xs ms)).length≤20)
  (fun e=>e=.inl ((0:Int),(0:Int),(0:Int),(0:Int),(0:Int),[],t0,t1,t2,t3,t4,bE (mH list xs ms),())) (by
   rintro x ⟨rfl,g⟩
   refine ⟨_,?_,rfl⟩;simp only [mJ,ba,aw,sk,aq (show ¬((60+1:Nat):Int)≤(60:Int) by omega),cond_false];unfold mH;rw [List.take_of_length_le g]) (by
   rintro k x hk ⟨rfl,g⟩
   have hle:((k+1:Nat):Int)≤(60:Int):=by omega
   have hl:=ea ((ints k).filter (jv list xs ms))
   by_cases h20:((List.length (bE ((ints k).filter (jv list xs ms))):Nat):Int)<20
   case neg=>
    refine .inl ⟨_,?_,rfl⟩;simp only [mJ,ba,aw,sk,ak hle,aq h20,cond_true,cond_false];have:mH list xs ms=(ints k).filter (jv list xs ms):=by
     unfold mH;obtain ⟨r,hr⟩:=IM k (60-k);rw [show k+(60-k)=60 by omega] at hr;rw [hr,List.filter_append];exact List.take_left' (by omega)
    rw [this]
   have Lg:(ints (k+1)).filter (jv list xs ms)=(ints k).filter (jv list xs ms)++(if jv list xs ms ((k+1:Nat):Int) then [((k+1:Nat):Int)] else []):=by
    rw [Lf,List.filter_append];rw [List.filter_cons,List.filter_nil]
   have arS:=Mv ((k+1:Nat):Int) xs hx;have alc:=Mv ((k+1:Nat):Int) (bE ms) Yr;rw [sv] at alc;have hb:Nat.ble (((bE ((ints k).filter (jv list xs ms))).length+1)*8) lim=true:=aT (by unfold lim;omega);have hsw:=aN (show k+1<4611686018427387904 by omega);simp only [mJ,ba,aw,sk,ak hle,ak h20,cond_true,wR list _ h,Option.bind_some,Bq,arS,alc,hb,hsw];have yes:jv list xs ms ((k+1:Nat):Int)=true→∃x':aaN,x'=(list,t0,t1,t2,t3,t4,xs,(0:Int),(0:Int),(0:Int),(0:Int),(0:Int),[],t0,t1,t2,t3,t4,bE ((ints k).filter (jv list xs ms))++[(((k+1:Nat):Int),())],bE ms,((k+1+1:Nat):Int),())∧
     (x'=(list,t0,t1,t2,t3,t4,xs,(0:Int),(0:Int),(0:Int),(0:Int),(0:Int),[],t0,t1,t2,t3,t4,bE ((ints (k+1)).filter (jv list xs ms)),bE ms,((k+1+1:Nat):Int),())∧((ints (k+1)).filter (jv list xs ms)).length≤20):=by
    intro hp;refine ⟨_,rfl,?_,?_⟩
    ·rw [Lg,hp,if_pos rfl,QF];rfl
    ·rw [Lg,hp,if_pos rfl,List.length_append];simp;omega
   have no:jv list xs ms ((k+1:Nat):Int)=false→∃x':aaN,x'=(list,t0,t1,t2,t3,t4,xs,(0:Int),(0:Int),(0:Int),(0:Int),(0:Int),[],t0,t1,t2,t3,t4,bE ((ints k).filter (jv list xs ms)),bE ms,((k+1+1:Nat):Int),())∧
     (x'=(list,t0,t1,t2,t3,t4,xs,(0:Int),(0:Int),(0:Int),(0:Int),(0:Int),[],t0,t1,t2,t3,t4,bE ((ints (k+1)).filter (jv list xs ms)),bE ms,((k+1+1:Nat):Int),())∧((ints (k+1)).filter (jv list xs ms)).length≤20):=by
    intro hp;refine ⟨_,rfl,?_,?_⟩
    ·rw [Lg,hp];simp
    ·rw [Lg,hp];simp;omega
   have My:jv list xs ms ((k+1:Nat):Int)=((!(fx list ((k+1:Nat):Int)).isSome&&decide (((k+1:Nat):Int)∈cu xs))||decide (((k+1:Nat):Int)∈ms)):=rfl
   cases c1:(fx list ((k+1:Nat):Int)).isSome
   ·cases c2:decide (((k+1:Nat):Int)∈cu xs)
    ·cases c3:decide (((k+1:Nat):Int)∈ms)
     ·obtain ⟨x',g1,g2⟩:=no (by rw [My,c1,c2,c3];rfl);exact .inr ⟨x',by rw [g1];rfl,g2⟩
     ·obtain ⟨x',g1,g2⟩:=yes (by rw [My,c1,c2,c3];rfl);exact .inr ⟨x',by rw [g1];rfl,g2⟩
    ·obtain ⟨x',g1,g2⟩:=yes (by rw [My,c1,c2];rfl);exact .inr ⟨x',by rw [g1];rfl,g2⟩
   ·cases c3:decide (((k+1:Nat):Int)∈ms)
    ·obtain ⟨x',g1,g2⟩:=no (by rw [My,c1,c3];rfl);exact .inr ⟨x',by rw [g1];rfl,g2⟩
    ·obtain ⟨x',g1,g2⟩:=yes (by rw [My,c1,c3];rfl);exact .inr ⟨x',by rw [g1];rfl,g2⟩) ⟨rfl,by simp [ints]⟩
 unfold eJ;rw [hm];simp only [Option.bind_some];rw [show (1:Int)=((0+1:Nat):Int) from rfl,he];rfl
def tW (list:aV) (s:Int):Bool := !hasB list s&&(decide (1≤s)&&decide (s≤60))
theorem QH (t0 t1 t2 t3 t4:Int) (xs:List (Int×Unit)) (list:aV) (ms:List Int) (h:list.length≤1048576) (hx:xs.length≤1048576) (hm:qN list t2=some (bE ms,())) (hms:ms.length≤20) (hmp:∀s∈ms,1≤s∧s≤60∧hasB list s=false) :
  vT t0 t1 t2 t3 t4 xs list=some (t0,t1,t2,t3,t4,bE (mH list xs ms),()):=by
 have R5:=ck (round:=mR) (e:=.inl ((0:Int),(0:Int),(0:Int),(0:Int),(0:Int),[],t0,t1,t2,t3,t4,xs,bE (ms++(cu xs).filter (tW list)),())) xs.length
  (fun k=>(list,(0:Int),(0:Int),(0:Int),(0:Int),(0:Int),[],t0,t1,t2,t3,t4,xs,bE (ms++(cu (xs.take k)).filter (tW list)),xs,((List.length xs:Nat):Int),((k:Nat):Int),())) (by
   simp only [mR,ba,xp,aM,cond_false,List.take_length]) (fun k hk=>by
   have hfl:((cu (xs.take k)).filter (tW list)).length≤1048576:=by
    have h1:=List.length_filter_le (tW list) (cu (xs.take k));have h2:=kR (xs.take k);rw [List.length_take] at h2;omega
   have hl:=ea (ms++(cu (xs.take k)).filter (tW list));rw [List.length_append] at hl;have Lg:(cu (xs.take (k+1))).filter (tW list)=(cu (xs.take k)).filter (tW list)++(if tW list xs[k].1 then [xs[k].1] else []):=by
    rw [List.take_succ_eq_append_getElem hk];unfold cu;rw [List.map_append,List.filter_append,List.map_cons,List.map_nil,List.filter_cons,List.filter_nil]
   have My:tW list xs[k].1=(!(fx list xs[k].1).isSome&&(decide (1≤xs[k].1)&&decide (xs[k].1≤60))):=rfl;simp only [mR,ba,xp,aE hk,ax,cond_true,aF,List.getElem?_eq_getElem hk,Option.bind_some,wS list _ h,Bq,wa,aT (show ((bE (ms++(cu (xs.take k)).filter (tW list))).length+1)*8≤lim by unfold lim;omega),aN (show k<4611686018427387904 by omega),Lg]
   cases c1:(fx list xs[k].1).isSome
   ·cases c2:(decide (1≤xs[k].1)&&decide (xs[k].1≤60))
    ·rw [My,c1,c2];simp
    ·rw [My,c1,c2];simp [bE]
   ·rw [My,c1];simp)
 have R5:aJ mR (list,(0:Int),(0:Int),(0:Int),(0:Int),(0:Int),[],t0,t1,t2,t3,t4,xs,bE (ms++(cu (xs.take 0)).filter (tW list)),xs,((List.length xs:Nat):Int),(0:Int),())=_:=R5;rw [show ms++(cu (xs.take 0)).filter (tW list)=ms by simp [cu]] at R5;have c2:fv t0 t1 t2 t3 t4 xs=some (t0,t1,t2,t3,t4,xs,()):=by
  unfold fv;rw [lL xs hx];rfl
 have hwl:(ms++(cu xs).filter (tW list)).length≤1048576+20:=by
  rw [List.length_append];have h1:=List.length_filter_le (tW list) (cu xs);have h2:=kR xs;omega
 generalize hW:ms++(cu xs).filter (tW list)=W at *;have ald:HO (bE W)=some (bE (W.mergeSort fun x y=>decide (x≤y)),()):=by
  unfold HO;rw [aT (show (bE W).length≤lim by rw [ea];unfold lim;omega),sv];rfl
 have aaO:qk (bE (W.mergeSort fun x y=>decide (x≤y)))=some (bE (Lib.compact (W.mergeSort fun x y=>decide (x≤y))),()):=by
  unfold qk;rw [aT (show (bE (W.mergeSort fun x y=>decide (x≤y))).length≤lim by rw [ea,List.length_mergeSort];unfold lim;omega),sv];rfl
 have hC:Lib.compact (W.mergeSort fun x y=>decide (x≤y))=(ints 60).filter (jv list xs ms):=by
  refine IK _ _ (IL _ (ZI W)) ((Gl 60).filter _) fun z => ?_
  rw [OB,XQ,←hW,List.mem_append,List.mem_filter,List.mem_filter,XR];unfold tW jv;simp only [Bool.and_eq_true,Bool.or_eq_true,decide_eq_true_eq,Bool.not_eq_true']
  constructor
  ·rintro (h1 | ⟨h1,h2,h3,h4⟩)
   ·exact ⟨⟨(hmp z h1).1,(hmp z h1).2.1⟩,.inr h1⟩
   ·exact ⟨⟨h3,h4⟩,.inl ⟨h2,h1⟩⟩
  ·rintro ⟨⟨h3,h4⟩,⟨h2,h1⟩ | h1⟩
   ·exact .inr ⟨h1,h2,h3,h4⟩
   ·exact .inl h1
 rw [hC] at aaO;have hCl:((ints 60).filter (jv list xs ms)).length≤60:=Nat.le_trans (List.length_filter_le _ _) (by simp [ints]);have arT:(if (20:Int)<((List.length (bE ((ints 60).filter (jv list xs ms))):Nat):Int) then (20:Int) else ((List.length (bE ((ints 60).filter (jv list xs ms))):Nat):Int))=((min 20 ((ints 60).filter (jv list xs ms)).length:Nat):Int):=by
  rw [ea]
  split<;>omega
 have ale:List.take (min 20 ((ints 60).filter (jv list xs ms)).length) (bE ((ints 60).filter (jv list xs ms)))=bE (mH list xs ms):=by
  unfold mH;rw [OC]
  by_cases h20:20≤((ints 60).filter (jv list xs ms)).length
  ·rw [Nat.min_eq_left h20]
  ·rw [Nat.min_eq_right (by omega),List.take_of_length_le (by rw [ea];omega),List.take_of_length_le (by rw [ea];omega)]
 have Ax:=lL (bE (mH list xs ms)) (by rw [ea];unfold mH;rw [List.length_take];omega);unfold vT;delta aA bA;rw [c2,hm];simp only [Option.bind_some];rw [R5];simp only [kD,ald,aaO,Option.bind_some,arT,ax,cond_true,aF,List.drop_zero,ale,Ax,ak (show ((min 20 ((ints 60).filter (jv list xs ms)).length:Nat):Int)≤((List.length (bE ((ints 60).filter (jv list xs ms))):Nat):Int) by rw [ea];omega)]
end Go.TM
set_option linter.unusedSimpArgs false
set_option linter.unusedVariables false
namespace Go.TM
open Go
theorem R6 {xs:aV} {s:Int}:hasB xs s=true↔∃r∈xs,r.1=s:=by
 unfold hasB fx;rw [List.find?_isSome];simp only [decide_eq_true_eq]
theorem Fx {r m:dY}:{xs:aV}→r∈xs→r∈nt xs m
 | [],h=>by cases h
 |x::xs,h=>by
  unfold nt
  split
  ·rcases List.mem_cons.1 h with rfl | h
   ·exact List.mem_cons_self
   ·exact List.mem_cons_of_mem _ (Fx h)
  ·split
   ·exact h
   ·exact List.mem_cons_of_mem _ h
theorem OD {xs ys:aV} (hx:xs.length≤1048576) (hy:ys.length≤1048576) (h:∀r∈xs,∃q∈ys,q.1=r.1):dH xs≤dH ys:=by
 obtain ⟨_,a1,_⟩:=(zA xs hx).2.2;obtain ⟨_,_,b2⟩:=(zA ys hy).2.2
 by_cases dM:dH ys<dH xs
 ·have h1:=a1 _ dM;obtain ⟨r,hr,e⟩:=R6.1 h1;obtain ⟨q,hq,e2⟩:=h r hr;have:hasB ys ((dH ys+1:Nat):Int)=true:=R6.2 ⟨q,hq,e2.trans e⟩;unfold hasB at this;rw [b2] at this
  cases this
 ·omega
def cT (xs:aV) (fs:aV):aV:=fs.foldl nt xs
theorem uK:(fs:aV)→{xs:aV}→fh xs xs.length→(∀f∈fs,pT f)→fh (cT xs fs) (cT xs fs).length
 | [],_,h,_=>h
 |f::fs,_,h,hf=>uK fs (zB h (hf f List.mem_cons_self)) fun g hg=>hf g (List.mem_cons_of_mem _ hg)
theorem Gm {r:dY}:(fs:aV)→{xs:aV}→r∈xs→r∈cT xs fs
 | [],_,h=>h
 |_::fs,_,h=>Gm fs (Fx h)
theorem QI {c2 d:Int} {lv:dC} {tx:List (ByteArray×Unit)} {k j:Nat} (hc:0≤c2∧c2+((k:Nat):Int)≤60) (hd:1≤d∧d≤5) (hk:k≤tx.length) (hs:kM tx tx.length) (hj:j<k):pT (GP c2 d lv tx j):=by
 have h1:j<tx.length:=by omega
 have hgt:(tx.getD j (ByteArray.empty,())).1=tx[j].1:=by rw [List.getD_eq_getElem?_getD,List.getElem?_eq_getElem h1,Option.getD_some]
 refine ⟨⟨?_,?_⟩,hd,?_,?_⟩
 ·show 1≤c2+((j+1:Nat):Int);omega
 ·show c2+((j+1:Nat):Int)≤60;omega
 ·show 1≤(bif decide (j<lv.length)&&decide ((lv.getD j ((0:Int),())).1=2) then (2:Int) else 1)∧(bif decide (j<lv.length)&&decide ((lv.getD j ((0:Int),())).1=2) then (2:Int) else 1)≤2
  cases decide (j<lv.length)&&decide ((lv.getD j ((0:Int),())).1=2)<;>decide
 ·show ByteArray.size (tx.getD j (ByteArray.empty,())).1≤60;rw [hgt];exact hs j h1 h1
theorem Gn {c2 d:Int} {lv:dC} {tx:List (ByteArray×Unit)} {k:Nat} (hc:0≤c2∧c2+((k:Nat):Int)≤60) (hd:1≤d∧d≤5) (hk:k≤tx.length) (hs:kM tx tx.length):∀f∈iI c2 d lv tx k,pT f:=by
 intro f hf;unfold iI at hf;obtain ⟨j,hj,rfl⟩:=List.mem_map.1 hf;exact QI hc hd hk hs (List.mem_range.1 hj)
def wW (t:lT) (xs:aV):aV:=xs.filter fun r=>decide (r.1∈cu t.2.2.2.2.2.1)
theorem XS (t:lT) (xs:aV) (h:xs.length≤1048576) (hw:t.2.2.2.2.2.1.length≤1048576):xK t.1 t.2.1 t.2.2.1 t.2.2.2.1 t.2.2.2.2.1 t.2.2.2.2.2.1 xs=some (wW t xs,())∧xS t.1 t.2.1 t.2.2.1 t.2.2.2.1 t.2.2.2.2.1 t.2.2.2.2.2.1 xs=some (wW t xs,()):=by
 have hlen:∀k,((xs.take k).filter fun r=>decide (r.1∈cu t.2.2.2.2.2.1)).length≤k:=fun k=>Nat.le_trans (List.length_filter_le _ _) (List.length_take_le _ _)
 constructor
 ·have hl:=ck (round:=n9) (e:=.inl (wW t xs,())) xs.length (fun k=>(xs,t.1,t.2.1,t.2.2.1,t.2.2.2.1,t.2.2.2.2.1,t.2.2.2.2.2.1,(xs.take k).filter (fun r=>decide (r.1∈cu t.2.2.2.2.2.1)),((k:Nat):Int),())) (by
   simp only [n9,bC,yv,aA,aM,cond_false,List.take_length,wW]) (fun k hk=>by
   have LG:=hlen k;simp only [n9,bC,yv,aA,aE hk,ax,cond_true,aF,List.getElem?_eq_getElem hk,Option.bind_some,Mv _ _ hw,aT (show (((xs.take k).filter fun r=>decide (r.1∈cu t.2.2.2.2.2.1)).length+1)*40≤lim by unfold lim;omega),aN (show k<4611686018427387904 by omega)];rw [List.take_succ_eq_append_getElem hk,List.filter_append]
   cases hp:decide (xs[k].1∈cu t.2.2.2.2.2.1)
   ·rw [List.filter_cons_of_neg (by rw [hp];simp)];simp
   ·rw [List.filter_cons_of_pos (by rw [hp])];rfl)
  have hl:aJ n9 (xs,t.1,t.2.1,t.2.2.1,t.2.2.2.1,t.2.2.2.2.1,t.2.2.2.2.2.1,[],(0:Int),())=_:=hl;unfold xK;rw [hl];rfl
 ·have hl:=ck (round:=ot) (e:=.inl (wW t xs,())) xs.length (fun k=>(t.1,t.2.1,t.2.2.1,t.2.2.2.1,t.2.2.2.2.1,t.2.2.2.2.2.1,(xs.take k).filter (fun r=>decide (r.1∈cu t.2.2.2.2.2.1)),xs,((List.length xs:Nat):Int),((k:Nat):Int),())) (by
   simp only [ot,bC,zk,aA,aM,cond_false,List.take_length,wW]) (fun k hk=>by
   have LG:=hlen k;simp only [ot,bC,zk,aA,aE hk,ax,cond_true,aF,List.getElem?_eq_getElem hk,Option.bind_some,Mw _ _ hw,aT (show (((xs.take k).filter fun r=>decide (r.1∈cu t.2.2.2.2.2.1)).length+1)*40≤lim by unfold lim;omega),aN (show k<4611686018427387904 by omega)];rw [List.take_succ_eq_append_getElem hk,List.filter_append]
   cases hp:decide (xs[k].1∈cu t.2.2.2.2.2.1)
   ·rw [List.filter_cons_of_neg (by rw [hp];simp)];simp
   ·rw [List.filter_cons_of_pos (by rw [hp])];rfl)
  have hl:aJ ot (t.1,t.2.1,t.2.2.1,t.2.2.2.1,t.2.2.2.2.1,t.2.2.2.2.2.1,[],xs,((List.length xs:Nat):Int),(0:Int),())=_:=hl;unfold xS;rw [hl];rfl
theorem XT {t:lT} {xs:aV} {r:dY} (h:r∈wW t xs):r∈xs:=(List.mem_filter.1 h).1
theorem XU (t:lT) (xs:aV):(wW t xs).length≤xs.length:=List.length_filter_le _ _
end Go.TM
