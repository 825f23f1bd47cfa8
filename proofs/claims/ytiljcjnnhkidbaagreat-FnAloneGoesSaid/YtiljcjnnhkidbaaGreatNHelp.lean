/- Sizes, copies, sameness: what the laws' own helping functions answer. -/
import Derived.Test.YtiljcjnnhkidbaaGreatNF3
set_option linter.unusedSimpArgs false
set_option linter.unusedVariables false
namespace Go.TM
open Go
def jR (_:Int×Unit):Nat:=0
def Bo (x:Int×aC×Unit):Nat:=(List.length x.2.1+wl jR x.2.1)
def dF (x:s9):Nat:=ByteArray.size x.2.2.2.1
def JK (x:ByteArray×Unit):Nat:=ByteArray.size x.1
def ed (x:lQ):Nat:=(List.length x.2.2.2.1+wl dF x.2.2.2.1)
def bu (x:vv):Nat:=(List.length x.2.2.1+wl jR x.2.2.1)+ByteArray.size x.2.2.2.2.2.2.1+(List.length x.2.2.2.2.2.2.2.1+wl jR x.2.2.2.2.2.2.2.1)
end Go.TM
set_option linter.unusedSimpArgs false
set_option linter.unusedVariables false
namespace Go.TM
open Go
def X5 (y:Int×Unit):UInt8:=UInt8.ofNat y.1.toNat
theorem MB (ys:List (Int×Unit)):(bytesOf ys).data.toList=ys.map X5:=by
 have key:∀(ys:List (Int×Unit)) (s:ByteArray),(List.foldl (fun (r:ByteArray) (y:Int×Unit)=>r.push (UInt8.ofNat y.1.toNat)) s ys).data.toList=s.data.toList++ys.map X5:=by
  intro ys
  induction ys with
  |nil=>intro s;simp
  |cons y ys ih=>
   intro s;rw [List.foldl_cons,ih];simp [X5]
 have:=key ys ByteArray.empty;exact this
theorem Ee (ys:List (Int×Unit)):(bytesOf ys).size=ys.length:=by
 have h1:(bytesOf ys).data.toList.length=(bytesOf ys).size:=Array.length_toList;rw [←h1,MB,List.length_map]
end Go.TM
set_option linter.unusedSimpArgs false
set_option linter.unusedVariables false
namespace Go.TM
open Go
theorem X6 {p:Prop} {i:Decidable p} (h:p):@decide p i=true:=decide_eq_true h
theorem Uf {p:Prop} {i:Decidable p} (h:¬p):@decide p i=false:=decide_eq_false h
theorem IM {α:Type} (f:α→Nat) (c:Nat):(xs:List α)→(∀x∈xs,f x≤c)→wl f xs≤c*xs.length
 | [],_=>Nat.zero_le _
 |x::xs,h=>by
  rw [sq,List.length_cons,Nat.mul_succ];have:=IM f c xs (fun y hy=>h y (List.mem_cons_of_mem _ hy));have:=h x List.mem_cons_self;omega
end Go.TM
set_option linter.unusedSimpArgs false
set_option linter.unusedVariables false
namespace Go.TM
open Go
theorem mE (a b c:Int):bO a b c=some (decide (b≤a)&&decide (a≤c),()):=by
 unfold bO
 cases decide (b≤a)<;>rfl
theorem wm (a b c:Int):cB a b c=some (decide (b≤a)&&decide (a≤c),()):=by
 unfold cB
 cases decide (b≤a)<;>rfl
theorem pZ (a:Int):iu a=some (decide (1≤a)&&decide (a≤5),()):=by
 unfold iu;rw [wm];rfl
def GS {A B:Type}:Sum A (Bool×Unit)→Sum B (Bool×Unit)→Prop
 |.inl _,.inl _=>True
 |.inr a,.inr b=>a.1=b.1
 |_,_=>False
theorem u6 {k:Nat} (h0:0<k) (h:k<4611686018427387904):IntKind.i64.wrap (((k:Nat):Int)-(1:Int))=(((k-1:Nat)):Int):=by
 rw [dq]<;>omega
theorem Ug (c:Int) (xs:List (Int×Unit)) (h:xs.length≤1048576) :
  ∃e f,aJ gl (c,xs,(0:Int),())=some e∧aJ nL (c,xs,xs,((List.length xs:Nat):Int),(0:Int),())=some f∧GS e f:=by
 refine qn xs.length (fun k x y=>x=(c,xs,((k:Nat):Int),())∧y=(c,xs,xs,((List.length xs:Nat):Int),((k:Nat):Int),())) GS ?_ ⟨rfl,rfl⟩
 rintro k x y hk ⟨rfl,rfl⟩
 by_cases dO:k<xs.length
 ·simp only [gl,nE,nL,aw,vX,aF dO,ax,cond_true,aG,List.getElem?_eq_getElem dO,Option.bind_some,mE,pZ,aM (show k<4611686018427387904 by omega)]
  cases (decide (1≤xs[k].1)&&decide (xs[k].1≤5))
  ·exact .inl ⟨.inr (false,()),.inr (false,()),rfl,rfl,rfl⟩
  ·by_cases h0:0<k
   ·have hp:k-1<xs.length:=by omega
    rw [u6 h0 (by omega)];simp only [ak (show (0:Int)<((k:Nat):Int) by omega),Bool.not_true,cond_false,cond_true,ax,aG,List.getElem?_eq_getElem hp,Option.bind_some]
    cases decide (xs[k].1≤xs[k-1].1)
    ·exact .inr ⟨dO,_,_,rfl,rfl,rfl,rfl⟩
    ·exact .inl ⟨.inr (false,()),.inr (false,()),rfl,rfl,rfl⟩
   ·have:k=0:=by omega
    subst this;simp only [aq (show ¬(0:Int)<((0:Nat):Int) by omega),Bool.not_true,cond_false];exact .inr ⟨dO,_,_,rfl,rfl,rfl,rfl⟩
 ·have:k=xs.length:=by omega
  subst this;exact .inl ⟨.inl (),.inl (),by simp only [gl,nE,aN,cond_false],by simp only [nL,aw,vX,aN,cond_false],trivial⟩
theorem BO (c:Int) (xs:List (Int×Unit)) (h:xs.length≤1048576):∃b,ec c xs=some (b,())∧gP c xs=some (b,())∧(b=true→1≤xs.length∧xs.length≤5):=by
 obtain ⟨e,f,h1,h2,h3⟩:=Ug c xs h;unfold ec gP;simp only [mE,wm,Option.bind_some,h1,h2]
 cases (decide (1≤c)&&decide (c≤9))
 ·exact ⟨false,rfl,rfl,fun h=>by cases h⟩
 cases hb:(decide (1≤((List.length xs:Nat):Int))&&decide (((List.length xs:Nat):Int)≤5))
 ·exact ⟨false,rfl,rfl,fun h=>by cases h⟩
 have hl:1≤xs.length∧xs.length≤5:=by
  rw [Bool.and_eq_true,decide_eq_true_eq,decide_eq_true_eq] at hb;omega
 cases e with
 |inl e=>cases f with
  |inl f=>exact ⟨true,rfl,rfl,fun _=>hl⟩
  |inr f=>exact h3.elim
 |inr e=>cases f with
  |inl f=>exact h3.elim
  |inr f=>exact ⟨e.1,rfl,by rw [show e.1=f.1 from h3];rfl,fun _=>hl⟩
end Go.TM
set_option linter.unusedSimpArgs false
set_option linter.unusedVariables false
namespace Go.TM
open Go
def abK (e:Sum Unit (Bool×Unit)) (f:Sum Unit (Int×Unit)):Prop:=∃b,(e=.inl ()∧f=.inl ()∧b=false)∨(e=.inr (true,())∧(∃k:Nat,f=.inr (((k:Nat):Int),()))∧b=true)
theorem aad (d:Int) (xs:List (Int×Unit)) (h:xs.length≤1048576) :
  ∃e f,aJ eO (xs,d,(0:Int),())=some e∧aJ jd (xs,d,((List.length xs:Nat):Int),(0:Int),())=some f∧abK e f:=by
 refine qn xs.length (fun k x y=>x=(xs,d,((k:Nat):Int),())∧y=(xs,d,((List.length xs:Nat):Int),((k:Nat):Int),())) abK ?_ ⟨rfl,rfl⟩
 rintro k x y hk ⟨rfl,rfl⟩
 by_cases dO:k<xs.length
 ·simp only [eO,kS,jd,aw,oT,aF dO,ax,cond_true,aG,List.getElem?_eq_getElem dO,Option.bind_some,aM (show k<4611686018427387904 by omega)]
  by_cases hd:xs[k].1=d
  ·rw [ak hd,ak hd.symm];exact .inl ⟨.inr (true,()),.inr (((k:Nat):Int),()),rfl,rfl,true,.inr ⟨rfl,⟨k,rfl⟩,rfl⟩⟩
  ·rw [aq hd,aq (fun e=>hd e.symm)];exact .inr ⟨dO,_,_,rfl,rfl,rfl,rfl⟩
 ·have:k=xs.length:=by omega
  subst this;exact .inl ⟨.inl (),.inl (),by simp only [eO,kS,aN,cond_false],by simp only [jd,aw,oT,aN,cond_false],false,.inl ⟨rfl,rfl,rfl⟩⟩
theorem pq (d:Int) (xs:List (Int×Unit)) (h:xs.length≤1048576):∃b,dw xs d=some (b,())∧cM xs d=some (b,()):=by
 obtain ⟨e,f,h1,h2,b,h3⟩:=aad d xs h;unfold dw cM rX;rw [h1,h2];rcases h3 with ⟨rfl,rfl,rfl⟩ | ⟨rfl,⟨k,rfl⟩,rfl⟩
 ·exact ⟨false,rfl,rfl⟩
 ·refine ⟨true,rfl,?_⟩;simp only [bZ,Option.bind_some,ax]
end Go.TM
set_option linter.unusedSimpArgs false
set_option linter.unusedVariables false
namespace Go.TM
open Go
def X7 (t:Int×Int×Int×Int×Int×(List (Int×Unit))×Unit):Sum Unit (Bool×Unit)→Sum (Int×Int×Int×Int×Int×(List (Int×Unit))×Unit) (Bool×Unit)→Prop
 |.inl _,.inl z=>z=t
 |.inr a,.inr b=>a.1=false∧b.1=false
 |_,_=>False
theorem QB (c0 c1 c2 c3 c4:Int) (xs:List (Int×Unit)) (h:xs.length≤1048576) :
  ∃e f,aJ fP (c0,c1,c2,c3,c4,xs,(0:Int),())=some e∧aJ mA (c0,c1,c2,c3,c4,xs,xs,((List.length xs:Nat):Int),(0:Int),())=some f∧X7 (c0,c1,c2,c3,c4,xs,()) e f:=by
 refine qn xs.length (fun k x y=>x=(c0,c1,c2,c3,c4,xs,((k:Nat):Int),())∧y=(c0,c1,c2,c3,c4,xs,xs,((List.length xs:Nat):Int),((k:Nat):Int),())) (X7 (c0,c1,c2,c3,c4,xs,())) ?_ ⟨rfl,rfl⟩
 rintro k x y hk ⟨rfl,rfl⟩
 by_cases dO:k<xs.length
 ·simp only [fP,aT,mo,mA,bC,tM,aF dO,ax,cond_true,aG,List.getElem?_eq_getElem dO,Option.bind_some,mE,wm,aM (show k<4611686018427387904 by omega)]
  cases (decide (1≤xs[k].1)&&decide (xs[k].1≤c2))
  ·exact .inl ⟨.inr (false,()),.inr (false,()),rfl,rfl,rfl,rfl⟩
  ·by_cases h0:0<k
   ·have hp:k-1<xs.length:=by omega
    rw [u6 h0 (by omega)];simp only [ak (show (0:Int)<((k:Nat):Int) by omega),Bool.not_true,cond_false,cond_true,ax,aG,List.getElem?_eq_getElem hp,Option.bind_some]
    cases decide (xs[k].1≤xs[k-1].1)
    ·exact .inr ⟨dO,_,_,rfl,rfl,rfl,rfl⟩
    ·exact .inl ⟨.inr (false,()),.inr (false,()),rfl,rfl,rfl,rfl⟩
   ·have:k=0:=by omega
    subst this;simp only [aq (show ¬(0:Int)<((0:Nat):Int) by omega),Bool.not_true,cond_false];exact .inr ⟨dO,_,_,rfl,rfl,rfl,rfl⟩
 ·have:k=xs.length:=by omega
  subst this;exact .inl ⟨.inl (),.inl (c0,c1,c2,c3,c4,xs,()),by simp only [fP,aT,mo,aN,cond_false],by simp only [mA,bC,tM,aN,cond_false],rfl⟩
theorem wo (c0 c1 c2 c3 c4:Int) (xs:List (Int×Unit)) (h:xs.length≤1048576):∃b,eU c0 c1 c2 c3 c4 xs=some (b,())∧iw c0 c1 c2 c3 c4 xs=some (b,())∧(b=true→0≤c2∧c2≤60∧0≤c3∧c3≤c2∧xs.length≤20∧(∀y∈[c0,c1],1≤y)):=by
 obtain ⟨e,f,h1,h2,h3⟩:=QB c0 c1 c2 c3 c4 xs h;unfold eU iw;simp only [mE,wm,Option.bind_some,h1,h2]
 cases q0:(decide (1≤c0)&&decide (c0≤9))
 ·exact ⟨false,rfl,rfl,fun h=>by cases h⟩
 cases q1:(decide (1≤c1)&&decide (c1≤1000000000))
 ·exact ⟨false,rfl,rfl,fun h=>by cases h⟩
 cases q2:(decide (0≤c2)&&decide (c2≤60))
 ·exact ⟨false,rfl,rfl,fun h=>by cases h⟩
 cases e with
 |inl e=>cases f with
  |inl f=>
   have h3:f=(c0,c1,c2,c3,c4,xs,()):=h3;subst h3;simp only [bZ,Option.bind_some,wm,Bool.not_true,cond_false]
   cases q3:(decide (0≤c3)&&decide (c3≤c2))
   ·exact ⟨false,rfl,rfl,fun h=>by cases h⟩
   cases (decide (0≤c4)&&decide (c4≤5))
   ·exact ⟨false,rfl,rfl,fun h=>by cases h⟩
   by_cases hl:((List.length xs:Nat):Int)≤20
   ·rw [ak hl,aq (show ¬(20:Int)<((List.length xs:Nat):Int) by omega)];refine ⟨true,rfl,rfl,fun _ => ?_⟩;rw [Bool.and_eq_true,decide_eq_true_eq,decide_eq_true_eq] at q0 q1 q2 q3;refine ⟨q2.1,q2.2,q3.1,q3.2,by omega,fun y hy => ?_⟩;rcases List.mem_cons.1 hy with rfl | hy
    ·exact q0.1
    ·rcases List.mem_cons.1 hy with rfl | hy
     ·exact q1.1
     ·cases hy
   ·rw [aq hl,ak (show (20:Int)<((List.length xs:Nat):Int) by omega)];exact ⟨false,rfl,rfl,fun h=>by cases h⟩
  |inr f=>exact h3.elim
 |inr e=>cases f with
  |inl f=>exact h3.elim
  |inr f=>
   obtain ⟨e1,e2⟩:=(show e.1=false∧f.1=false from h3);refine ⟨false,?_,by rw [←e2];rfl,fun h=>by cases h⟩
   cases (decide (0≤c3)&&decide (c3≤c2))
   ·rfl
   cases (decide (0≤c4)&&decide (c4≤5))
   ·rfl
   cases decide ((20:Int)<((List.length xs:Nat):Int))
   ·show some (e.1,())=some (false,());rw [e1]
   ·rfl
theorem lF (xs:List (Int×Unit)) (h:xs.length≤1048576):dH xs=some (xs,()):=by
 unfold dH;rw [aS (show (0+xs.length)*8≤lim by unfold lim;omega)];rfl
theorem mf (c0 c1 c2 c3 c4:Int) (xs:List (Int×Unit)) (h:xs.length≤1048576):bw c0 c1 c2 c3 c4 xs=some (c0,c1,c2,c3,c4,xs,())∧fk c0 c1 c2 c3 c4 xs=some (c0,c1,c2,c3,c4,xs,()):=by
 constructor
 ·unfold bw;rw [aS (show (0+xs.length)*8≤lim by unfold lim;omega)];rfl
 ·unfold fk;rw [lF xs h];rfl
def xB (c2:Int) (xs:List (Int×Unit)) (n:Nat):Prop:=∀k (h:k<xs.length),k<n→1≤xs[k].1∧xs[k].1≤c2∧∀h0:0<k,xs[k-1].1<xs[k].1
def ahc (c0 c1 c2 c3 c4:Int) (xs:List (Int×Unit)):Prop:=(1≤c0∧c0≤9)∧(1≤c1∧c1≤1000000000)∧(0≤c2∧c2≤60)∧(0≤c3∧c3≤c2)∧(0≤c4∧c4≤5)∧xs.length≤20∧xB c2 xs xs.length
theorem Lo (c0 c1 c2 c3 c4:Int) (xs:List (Int×Unit)) (h:xs.length≤1048576):∃b,eU c0 c1 c2 c3 c4 xs=some (b,())∧iw c0 c1 c2 c3 c4 xs=some (b,())∧(b=true↔ahc c0 c1 c2 c3 c4 xs):=by
 obtain ⟨b,h1,h2,_⟩:=wo c0 c1 c2 c3 c4 xs h;refine ⟨b,h1,h2,?_⟩;obtain ⟨e,he,hq⟩:=dt (round:=fP) (x:=(c0,c1,c2,c3,c4,xs,((0:Nat):Int),())) xs.length (fun k x=>x=(c0,c1,c2,c3,c4,xs,((k:Nat):Int),())∧xB c2 xs k)
  (fun e=>(e=.inl ()∧xB c2 xs xs.length)∨(e=.inr (false,())∧¬xB c2 xs xs.length)) (by
   rintro x ⟨rfl,g⟩
   exact ⟨.inl (),by simp only [fP,aT,mo,aN,cond_false],.inl ⟨rfl,g⟩⟩) (by
   rintro k x dO ⟨rfl,g⟩
   simp only [fP,aT,mo,aF dO,ax,cond_true,aG,List.getElem?_eq_getElem dO,Option.bind_some,mE,aM (show k<4611686018427387904 by omega)];have more:1≤xs[k].1→xs[k].1≤c2→(∀h0:0<k,xs[k-1].1<xs[k].1)→xB c2 xs (k+1):=by
    intro w1 w2 w3 j hj NL
    by_cases e:j<k
    ·exact g j hj e
    ·have:j=k:=by omega
     subst this;exact ⟨w1,w2,w3⟩
   cases Gx:(decide (1≤xs[k].1)&&decide (xs[k].1≤c2))
   ·refine .inl ⟨.inr (false,()),rfl,.inr ⟨rfl,fun hn => ?_⟩⟩;obtain ⟨w1,w2,_⟩:=hn k dO dO;rw [ak w1,ak w2] at Gx
    cases Gx
   ·rw [Bool.and_eq_true,decide_eq_true_eq,decide_eq_true_eq] at Gx
    by_cases h0:0<k
    ·have hp:k-1<xs.length:=by omega
     rw [u6 h0 (by omega)];simp only [ak (show (0:Int)<((k:Nat):Int) by omega),Bool.not_true,cond_false,cond_true,ax,aG,List.getElem?_eq_getElem hp,Option.bind_some]
     by_cases hd:xs[k].1≤xs[k-1].1
     ·rw [ak hd];refine .inl ⟨.inr (false,()),rfl,.inr ⟨rfl,fun hn => ?_⟩⟩;have:=(hn k dO dO).2.2 h0;omega
     ·rw [aq hd];exact .inr ⟨_,rfl,rfl,more Gx.1 Gx.2 (fun _=>by omega)⟩
    ·have:k=0:=by omega
     subst this;simp only [aq (show ¬(0:Int)<((0:Nat):Int) by omega),Bool.not_true,cond_false];exact .inr ⟨_,rfl,rfl,more Gx.1 Gx.2 (fun h0=>absurd h0 (Nat.lt_irrefl 0))⟩) ⟨rfl,fun j _ h=>by omega⟩
 have he:aJ fP (c0,c1,c2,c3,c4,xs,(0:Int),())=some e:=he;unfold eU at h1;simp only [mE,Option.bind_some,he] at h1;have no:∀ {p:Prop},(some (false,()):Option (Bool×Unit))=some (b,())→¬p→(b=true↔p):=by
  intro p e1 hp;injection e1 with e1;injection e1 with e1;subst e1;exact ⟨(fun h=>by cases h),fun h=>absurd h hp⟩
 have yes:∀ {p:Prop},(some (true,()):Option (Bool×Unit))=some (b,())→p→(b=true↔p):=by
  intro p e1 hp;injection e1 with e1;injection e1 with e1;subst e1;exact ⟨fun _=>hp,fun _=>rfl⟩
 by_cases q0:1≤c0∧c0≤9
 case neg=>
  rw [show (decide (1≤c0)&&decide (c0≤9))=false by rw [Bool.and_eq_false_iff,decide_eq_false_iff_not,decide_eq_false_iff_not];omega] at h1;exact no h1 (fun h=>q0 h.1)
 rw [ak q0.1,ak q0.2] at h1
 by_cases q1:1≤c1∧c1≤1000000000
 case neg=>
  rw [show (decide (1≤c1)&&decide (c1≤1000000000))=false by rw [Bool.and_eq_false_iff,decide_eq_false_iff_not,decide_eq_false_iff_not];omega] at h1;exact no h1 (fun h=>q1 h.2.1)
 rw [ak q1.1,ak q1.2] at h1
 by_cases q2:0≤c2∧c2≤60
 case neg=>
  rw [show (decide (0≤c2)&&decide (c2≤60))=false by rw [Bool.and_eq_false_iff,decide_eq_false_iff_not,decide_eq_false_iff_not];omega] at h1;exact no h1 (fun h=>q2 h.2.2.1)
 rw [ak q2.1,ak q2.2] at h1
 by_cases q3:0≤c3∧c3≤c2
 case neg=>
  rw [show (decide (0≤c3)&&decide (c3≤c2))=false by rw [Bool.and_eq_false_iff,decide_eq_false_iff_not,decide_eq_false_iff_not];omega] at h1;exact no h1 (fun h=>q3 h.2.2.2.1)
 rw [ak q3.1,ak q3.2] at h1
 by_cases q4:0≤c4∧c4≤5
 case neg=>
  rw [show (decide (0≤c4)&&decide (c4≤5))=false by rw [Bool.and_eq_false_iff,decide_eq_false_iff_not,decide_eq_false_iff_not];omega] at h1;exact no h1 (fun h=>q4 h.2.2.2.2.1)
 rw [ak q4.1,ak q4.2] at h1
 by_cases q5:(20:Int)<((List.length xs:Nat):Int)
 ·rw [ak q5] at h1;exact no h1 (fun h=>by have:=h.2.2.2.2.2.1;omega)
 rw [aq q5] at h1;rcases hq with ⟨rfl,q⟩ | ⟨rfl,q⟩
 ·exact yes h1 ⟨q0,q1,q2,q3,q4,by omega,q⟩
 ·exact no h1 (fun h=>q h.2.2.2.2.2.2)
end Go.TM
set_option linter.unusedSimpArgs false
set_option linter.unusedVariables false
namespace Go.TM
open Go
theorem Ef (a:Int):od a=some (decide (1≤a)&&decide (a≤2),()):=by
 unfold od
 by_cases h1:a=1
 ·subst h1;rfl
 by_cases h2:a=2
 ·subst h2;rfl
 have e:(decide (1≤a)&&decide (a≤2))=false:=by
  rw [Bool.and_eq_false_iff,decide_eq_false_iff_not,decide_eq_false_iff_not];omega
 rw [e,aq h1,aq h2];rfl
theorem Uh (a b c:Int) (s:ByteArray):∃x,kC a b c s=some (x,())∧lT a b c s=some (x,()):=by
 unfold kC lT;simp only [mE,wm,pZ,Ef,Option.bind_some]
 cases (decide (1≤a)&&decide (a≤60))
 ·exact ⟨_,rfl,rfl⟩
 cases (decide (1≤b)&&decide (b≤5))
 ·exact ⟨_,rfl,rfl⟩
 cases (decide (1≤c)&&decide (c≤2))
 ·exact ⟨_,rfl,rfl⟩
 ·exact ⟨_,rfl,rfl⟩
theorem QC (xs:List (Int×Int×Int×ByteArray×Unit)) (h:xs.length≤1048576) :
  ∃e f,aJ fO (xs,(0:Int),())=some e∧aJ mz (xs,xs,((List.length xs:Nat):Int),(0:Int),())=some f∧GS e f:=by
 refine qn xs.length (fun k x y=>x=(xs,((k:Nat):Int),())∧y=(xs,xs,((List.length xs:Nat):Int),((k:Nat):Int),())) GS ?_ ⟨rfl,rfl⟩
 rintro k x y hk ⟨rfl,rfl⟩
 by_cases dO:k<xs.length
 ·obtain ⟨b,r1,r2⟩:=Uh xs[k].1 xs[k].2.1 xs[k].2.2.1 xs[k].2.2.2.1;simp only [fO,mn,aw,mz,aw,tL,aw,aF dO,ax,cond_true,aG,List.getElem?_eq_getElem dO,Option.bind_some,r1,r2,aM (show k<4611686018427387904 by omega)]
  cases b
  ·exact .inl ⟨.inr (false,()),.inr (false,()),rfl,rfl,rfl⟩
  ·by_cases h0:0<k
   ·have hp:k-1<xs.length:=by omega
    rw [u6 h0 (by omega)];simp only [ak (show (0:Int)<((k:Nat):Int) by omega),Bool.not_true,cond_false,cond_true,ax,aG,List.getElem?_eq_getElem hp,Option.bind_some]
    cases decide (xs[k].1≤xs[k-1].1)
    ·exact .inr ⟨dO,_,_,rfl,rfl,rfl,rfl⟩
    ·exact .inl ⟨.inr (false,()),.inr (false,()),rfl,rfl,rfl⟩
   ·have:k=0:=by omega
    subst this;simp only [aq (show ¬(0:Int)<((0:Nat):Int) by omega),Bool.not_true,cond_false];exact .inr ⟨dO,_,_,rfl,rfl,rfl,rfl⟩
 ·have:k=xs.length:=by omega
  subst this;exact .inl ⟨.inl (),.inl (),by simp only [fO,mn,aw,aN,cond_false],by simp only [mz,aw,tL,aw,aN,cond_false],trivial⟩
theorem CZ (xs:List (Int×Int×Int×ByteArray×Unit)) (h:xs.length≤1048576):∃b,gp xs=some (b,())∧jh xs=some (b,()):=by
 obtain ⟨e,f,h1,h2,h3⟩:=QC xs h;unfold gp jh;rw [h1,h2]
 cases e with
 |inl e=>cases f with
  |inl f=>exact ⟨true,rfl,rfl⟩
  |inr f=>exact h3.elim
 |inr e=>cases f with
  |inl f=>exact h3.elim
  |inr f=>exact ⟨e.1,rfl,by rw [show e.1=f.1 from h3];rfl⟩
abbrev dY:Type:=Int×Int×Int×ByteArray×Unit
abbrev aU:Type:=List dY
def ey (xs:aU) (s:Int):Option dY:=xs.find? fun r=>decide (r.1=s)
def qT:Option dY→Int×Int×Int×ByteArray×Bool×Unit
 |none=>(0,0,0,ByteArray.empty,false,())
 |some r=>(r.1,r.2.1,r.2.2.1,r.2.2.2.1,true,())
def R9:Option dY→Sum (Int×Int×Int×ByteArray×Unit) (Int×Int×Int×ByteArray×Bool×Unit)
 |none=>.inl (0,0,0,ByteArray.empty,())
 |some r=>.inr (qT (some r))
theorem Lp (xs:aU) (s:Int) {k:Nat} (hk:k<xs.length):ey (xs.drop k) s=if xs[k].1=s then some xs[k] else ey (xs.drop (k+1)) s:=by
 unfold ey;rw [List.drop_eq_getElem_cons hk,List.find?_cons]
 by_cases h:xs[k].1=s
 ·rw [ak h,if_pos h]
 ·rw [aq h,if_neg h]
theorem w6 (xs:aU) (s:Int) (h:xs.length≤1048576):nF xs s=some (qT (ey xs s)):=by
 have hl:=sK (round:=ln) (n:=xs.length) (fun k=>(xs,s,(0:Int),(0:Int),(0:Int),ByteArray.empty,((k:Nat):Int),())) (fun k=>some (R9 (ey (xs.drop k) s)))
  ⟨.inl (0,0,0,ByteArray.empty,()),by simp only [ln,aT,vC,aA,aN,cond_false],by rw [List.drop_length];rfl⟩ (fun k hk=>by
   rw [Lp xs s hk];simp only [ln,aT,vC,aA,aF hk,ax,cond_true,aG,List.getElem?_eq_getElem hk,Option.bind_some,aM (show k<4611686018427387904 by omega)]
   by_cases h:xs[k].1=s
   ·rw [ak h,if_pos h];exact .inl ⟨_,rfl,rfl⟩
   ·rw [aq h,if_neg h];exact .inr ⟨rfl,rfl⟩) 0 (Nat.zero_le _)
 unfold nF;have hl:aJ ln (xs,s,(0:Int),(0:Int),(0:Int),ByteArray.empty,(0:Int),())=_:=hl;rw [hl,List.drop_zero]
 cases ey xs s<;>rfl
theorem w7 (xs:aU) (s:Int) (h:xs.length≤1048576):nM xs s=some (qT (ey xs s)):=by
 have hl:=sK (round:=lC) (n:=xs.length) (fun k=>(s,(0:Int),(0:Int),(0:Int),ByteArray.empty,xs,((List.length xs:Nat):Int),((k:Nat):Int),())) (fun k=>some (R9 (ey (xs.drop k) s)))
  ⟨.inl (0,0,0,ByteArray.empty,()),by simp only [lC,bC,vY,aA,aN,cond_false],by rw [List.drop_length];rfl⟩ (fun k hk=>by
   rw [Lp xs s hk];simp only [lC,bC,vY,aA,aF hk,ax,cond_true,aG,List.getElem?_eq_getElem hk,Option.bind_some,aM (show k<4611686018427387904 by omega)]
   by_cases h:xs[k].1=s
   ·rw [ak h,if_pos h];exact .inl ⟨_,rfl,rfl⟩
   ·rw [aq h,if_neg h];exact .inr ⟨rfl,rfl⟩) 0 (Nat.zero_le _)
 unfold nM;have hl:aJ lC (s,(0:Int),(0:Int),(0:Int),ByteArray.empty,xs,((List.length xs:Nat):Int),(0:Int),())=_:=hl;rw [hl,List.drop_zero]
 cases ey xs s<;>rfl
theorem Gd:(n:Nat)→(ys:List Int)→(∀i,i<n→((i+1:Nat):Int)∈ys)→n≤ys.length
 |0,_,_=>Nat.zero_le _
 |n+1,ys,h=>by
  have hm:=h n (by omega);have:=Gd n (ys.erase ((n+1:Nat):Int)) (fun i hi=>(List.mem_erase_of_ne (by omega)).2 (h i (by omega)));rw [List.length_erase_of_mem hm] at this;have:0<ys.length:=List.length_pos_of_mem hm;omega
theorem zG {xs:aU} {s:Int} {r:dY} (h:ey xs s=some r):r∈xs∧r.1=s:=by
 unfold ey at h;exact ⟨List.mem_of_find?_eq_some h,by have:=List.find?_some h;simpa using this⟩
def Sa (xs:aU) (n:Nat):Prop:=n≤xs.length∧(∀i,i<n→(ey xs ((i+1:Nat):Int)).isSome=true)∧ey xs ((n+1:Nat):Int)=none
theorem aae {xs:aU} (h:∀i,i<xs.length→(ey xs ((i+1:Nat):Int)).isSome=true):ey xs ((xs.length+1:Nat):Int)=none:=by
 cases hq:ey xs ((xs.length+1:Nat):Int) with
 |none=>rfl
 |some r=>
  have key:=Gd (xs.length+1) (xs.map (·.1)) (fun i hi=>by
   have:∃r,ey xs ((i+1:Nat):Int)=some r:=by
    by_cases Y8:i<xs.length
    ·exact Option.isSome_iff_exists.1 (h i Y8)
    ·have:i=xs.length:=by omega
     subst this;exact ⟨r,hq⟩
   obtain ⟨r',hr⟩:=this;obtain ⟨m1,m2⟩:=zG hr;exact List.mem_map.2 ⟨r',m1,m2⟩)
  rw [List.length_map] at key;omega
theorem Eg (xs:aU) (h:xs.length≤1048576):∃n:Nat,ic xs=some (((n:Nat):Int),())∧jP xs=some (((n:Nat):Int),())∧Sa xs n:=by
 obtain ⟨e,f,h1,h2,n,h3⟩:∃e f,aJ su (xs,(0:Int),(0:Int),())=some e∧aJ sC (xs,(0:Int),())=some f∧∃n:Nat,(e=.inl (((n:Nat):Int),())∨e=.inr (((n:Nat):Int),()))∧f=.inr (((n:Nat):Int),())∧Sa xs n:=by
  refine qn xs.length (fun k x y=>x=(xs,((k:Nat):Int),((k:Nat):Int),())∧y=(xs,((k:Nat):Int),())∧∀i,i<k→(ey xs ((i+1:Nat):Int)).isSome=true) _ ?_ ⟨rfl,rfl,fun i hi=>by omega⟩
  rintro k x y hk ⟨rfl,rfl,q8⟩
  simp only [su,Ck,sC,Cl,aM (show k<4611686018427387904 by omega),w6 xs _ h,w7 xs _ h,Option.bind_some]
  by_cases dO:k<xs.length
  ·rw [aF dO]
   cases hq:ey xs ((k+1:Nat):Int) with
   |none=>exact .inl ⟨.inr (((k:Nat):Int),()),.inr (((k:Nat):Int),()),rfl,rfl,k,.inr rfl,rfl,hk,q8,hq⟩
   |some r=>
    refine .inr ⟨dO,_,_,rfl,rfl,rfl,rfl,fun i hi => ?_⟩
    by_cases Y8:i<k
    ·exact q8 i Y8
    ·have:i=k:=by omega
     subst this;rw [hq];rfl
  ·have:k=xs.length:=by omega
   subst this;have hq:=aae q8;rw [aN,hq];exact .inl ⟨.inl (((xs.length:Nat):Int),()),.inr (((xs.length:Nat):Int),()),rfl,rfl,xs.length,.inl rfl,rfl,hk,q8,hq⟩
 obtain ⟨h3,rfl,h4⟩:=h3;unfold ic jP;rw [h1,h2];refine ⟨n,?_,rfl,h4⟩;rcases h3 with rfl | rfl<;>rfl
end Go.TM
set_option linter.unusedSimpArgs false
set_option linter.unusedVariables false
namespace Go.TM
open Go
abbrev EvR:Type:=Int×Int×(List (Int×Unit))×Int×Int×Int×ByteArray×(List (Int×Unit))×Unit
theorem IN (xs:List EvR) {k:Nat} (hk:k<xs.length) (h:xs.length+wl bu xs≤1048576):xs[k].2.2.1.length≤1048576∧xs[k].2.2.2.2.2.2.2.1.length≤1048576:=by
 have hw:=HQ bu xs xs[k] (List.getElem_mem hk);have:bu xs[k]=(List.length xs[k].2.2.1+wl jR xs[k].2.2.1)+ByteArray.size xs[k].2.2.2.2.2.2.1+(List.length xs[k].2.2.2.2.2.2.2.1+wl jR xs[k].2.2.2.2.2.2.2.1):=rfl;omega
theorem tQ (xs:List EvR) (h:xs.length+wl bu xs≤1048576):cX xs=some (xs,()):=by
 have hl:=ck (round:=cT) (e:=.inl (xs,())) xs.length (fun k=>(xs,xs.take k,((k:Nat):Int),())) (by
  simp only [cT,hM,aA,aN,cond_false,List.take_length]) (fun k hk=>by
  obtain ⟨e1,e2⟩:=IN xs hk h;simp only [cT,hM,aA,aF hk,ax,cond_true,aG,List.getElem?_eq_getElem hk,Option.bind_some,List.length_take,Nat.min_eq_left (Nat.le_of_lt hk),aS (show (0+xs[k].2.2.1.length)*8≤lim by unfold lim;omega),aS (show (0+xs[k].2.2.2.2.2.2.2.1.length)*8≤lim by unfold lim;omega),aS (show (k+1)*104≤lim by unfold lim;omega),aM (show k<4611686018427387904 by omega),List.nil_append];rw [List.take_succ_eq_append_getElem hk])
 have hl:aJ cT (xs,[],(0:Int),())=_:=hl;unfold cX;rw [hl];rfl
theorem GJ (xs:List EvR) (h:xs.length+wl bu xs≤1048576):uK xs=some (xs,()):=by
 have hl:=ck (round:=ko) (e:=.inl (xs,())) xs.length (fun k=>(xs.take k,xs,((xs.length:Nat):Int),((k:Nat):Int),())) (by
  simp only [ko,aw,tN,bC,eC,aN,cond_false,List.take_length]) (fun k hk=>by
  obtain ⟨e1,e2⟩:=IN xs hk h;simp only [ko,aw,tN,bC,eC,v7,bM,lF _ e1,lF _ e2,aF hk,ax,cond_true,aG,List.getElem?_eq_getElem hk,Option.bind_some,List.length_take,Nat.min_eq_left (Nat.le_of_lt hk),aS (show (k+1)*104≤lim by unfold lim;omega),aM (show k<4611686018427387904 by omega)];rw [List.take_succ_eq_append_getElem hk])
 have hl:aJ ko ([],xs,((xs.length:Nat):Int),(0:Int),())=_:=hl;unfold uK;rw [hl];rfl
end Go.TM
set_option linter.unusedSimpArgs false
set_option linter.unusedVariables false
namespace Go.TM
open Go
theorem Ge (a b c:Int) (xs:List (Int×Int×Int×ByteArray×Unit)) (h:xs.length≤1048576):∃x,im a b c xs=some (x,())∧jk a b c xs=some (x,()):=by
 obtain ⟨y,h1,h2⟩:=CZ xs h;unfold im jk;simp only [mE,wm,pZ,Option.bind_some,h1,h2]
 cases (decide (1≤a)&&decide (a≤5))
 ·exact ⟨_,rfl,rfl⟩
 cases (decide (1≤b)&&decide (b≤9))
 ·exact ⟨_,rfl,rfl⟩
 cases (decide (0≤c)&&decide (c≤IntKind.i64.wrap (b-1)))
 ·exact ⟨_,rfl,rfl⟩
 cases y
 ·exact ⟨_,rfl,rfl⟩
 cases decide (0<c)
 ·exact ⟨_,rfl,rfl⟩
 ·exact ⟨_,rfl,rfl⟩
abbrev ea:Type:=Int×Int×Int×aU×Unit
noncomputable def p7 (b:ea):Bool:=match im b.1 b.2.1 b.2.2.1 b.2.2.2.1 with | some x=>x.1 | none=>false
theorem se (b:ea) (h:b.2.2.2.1.length≤1048576):im b.1 b.2.1 b.2.2.1 b.2.2.2.1=some (p7 b,())∧jk b.1 b.2.1 b.2.2.1 b.2.2.2.1=some (p7 b,()):=by
 obtain ⟨x,h1,h2⟩:=Ge b.1 b.2.1 b.2.2.1 b.2.2.2.1 h;have:p7 b=x:=by unfold p7;rw [h1]
 rw [this];exact ⟨h1,h2⟩
theorem Eh (xs:List ea) {k:Nat} (hk:k<xs.length) (h:xs.length+wl ed xs≤1048576):xs[k].2.2.2.1.length≤1048576:=by
 have hw:=HQ ed xs xs[k] (List.getElem_mem hk);have:ed xs[k]=List.length xs[k].2.2.2.1+wl dF xs[k].2.2.2.1:=rfl;omega
structure jm (xs:List ea):Prop where
 len:xs.length≤4194304
 each:∀b∈xs,b.2.2.2.1.length≤1048576
theorem jm.at {xs:List ea} (h:jm xs) {k:Nat} (hk:k<xs.length):xs[k].2.2.2.1.length≤1048576:=h.each _ (List.getElem_mem hk)
theorem jm.of {xs:List ea} (h:xs.length+wl ed xs≤1048576):jm xs:=⟨by omega,fun b hb=>by
 obtain ⟨k,hk,rfl⟩:=List.mem_iff_getElem.1 hb;exact Eh xs hk h⟩
theorem jm.more {xs:List ea} (h:xs.length+wl ed xs≤1048576) {b:ea} (hb:b.2.2.2.1.length≤1048576):jm (xs++[b]):=⟨by rw [List.length_append,List.length_singleton];omega,fun x hx=>by
 rcases List.mem_append.1 hx with hx | hx
 ·exact (jm.of h).each x hx
 ·rw [List.mem_singleton] at hx;subst hx;exact hb⟩
noncomputable def gR (xs:List ea) (c id:Int):Option ea:=xs.find? fun b=>decide (b.1=id)&&(decide (b.2.1=c)&&p7 b)
abbrev tR:Option ea→Int×Int×Int×aU×Bool×Unit
 |none=>(0,0,0,[],false,())
 |some b=>(b.1,b.2.1,b.2.2.1,b.2.2.2.1,true,())
def X8:Option ea→Sum (Int×Int×Int×aU×Unit) (Int×Int×Int×aU×Bool×Unit)
 |none=>.inl (0,0,0,[],())
 |some b=>.inr (tR (some b))
theorem IP (xs:List ea) (c id:Int) {k:Nat} (hk:k<xs.length):gR (xs.drop k) c id=if (decide (xs[k].1=id)&&(decide (xs[k].2.1=c)&&p7 xs[k]))=true then some xs[k] else gR (xs.drop (k+1)) c id:=by
 unfold gR;rw [List.drop_eq_getElem_cons hk,List.find?_cons]
 cases (decide (xs[k].1=id)&&(decide (xs[k].2.1=c)&&p7 xs[k]))<;>rfl
theorem Fv {xs:List ea} {c id:Int} {b:ea} (h:gR xs c id=some b):b∈xs∧b.1=id∧b.2.1=c∧p7 b=true:=by
 unfold gR at h;have:=List.find?_some h;simp only [Bool.and_eq_true,decide_eq_true_eq] at this;exact ⟨List.mem_of_find?_eq_some h,this⟩
theorem sf (bH:Int) (bJ:List (Int×Unit)) (xs:List ea) (id:Int) (h:jm xs):dV bH bJ xs id=some (tR (gR xs bH id)):=by
 have UM:=h.len;have hl:=sK (round:=jy) (n:=xs.length) (fun k=>(xs,id,bH,bJ,(0:Int),(0:Int),(0:Int),[],((k:Nat):Int),())) (fun k=>some (X8 (gR (xs.drop k) bH id)))
  ⟨.inl (0,0,0,[],()),by simp only [jy,bC,rP,aw,aA,aN,cond_false],by rw [List.drop_length];rfl⟩ (fun k hk=>by
   have hb:=(se xs[k] (h.at hk)).1;rw [IP xs bH id hk];simp only [jy,bC,rP,aw,aA,aF hk,ax,cond_true,aG,List.getElem?_eq_getElem hk,Option.bind_some,hb,aM (show k<4611686018427387904 by omega)]
   cases decide (xs[k].1=id)
   ·exact .inr ⟨rfl,rfl⟩
   cases decide (xs[k].2.1=bH)
   ·exact .inr ⟨rfl,rfl⟩
   cases p7 xs[k]
   ·exact .inr ⟨rfl,rfl⟩
   ·exact .inl ⟨_,rfl,rfl⟩) 0 (Nat.zero_le _)
 unfold dV;have hl:aJ jy (xs,id,bH,bJ,(0:Int),(0:Int),(0:Int),[],(0:Int),())=_:=hl;rw [hl,List.drop_zero]
 cases gR xs bH id<;>rfl
theorem wq (bH:Int) (bJ:List (Int×Unit)) (xs:List ea) (id:Int) (h:jm xs):jl bH bJ xs id=some (tR (gR xs bH id)):=by
 have UM:=h.len;have hl:=sK (round:=jD) (n:=xs.length) (fun k=>(id,bH,bJ,(0:Int),(0:Int),(0:Int),[],xs,((xs.length:Nat):Int),((k:Nat):Int),())) (fun k=>some (X8 (gR (xs.drop k) bH id)))
  ⟨.inl (0,0,0,[],()),by simp only [jD,bC,rZ,aw,aA,aN,cond_false],by rw [List.drop_length];rfl⟩ (fun k hk=>by
   have hb:=(se xs[k] (h.at hk)).2;rw [IP xs bH id hk];simp only [jD,bC,rZ,aw,aA,aF hk,ax,cond_true,aG,List.getElem?_eq_getElem hk,Option.bind_some,hb,aM (show k<4611686018427387904 by omega)]
   cases decide (xs[k].1=id)
   ·exact .inr ⟨rfl,rfl⟩
   cases decide (xs[k].2.1=bH)
   ·exact .inr ⟨rfl,rfl⟩
   cases p7 xs[k]
   ·exact .inr ⟨rfl,rfl⟩
   ·exact .inl ⟨_,rfl,rfl⟩) 0 (Nat.zero_le _)
 unfold jl;have hl:aJ jD (id,bH,bJ,(0:Int),(0:Int),(0:Int),[],xs,((xs.length:Nat):Int),(0:Int),())=_:=hl;rw [hl,List.drop_zero]
 cases gR xs bH id<;>rfl
noncomputable def iE (xs:List ea) (c id:Int) (gz:ea) (out:List (Int×Unit)) (d:Int):List (Int×Unit):=
 match gR xs c d with
 |none=>out
 |some b=>if (d=id∨(b.2.2.1=gz.2.2.1∧0<b.2.2.1))∧(d,())∉out then out++[(d,())] else out
theorem Ei (xs:List ea) (c id:Int) (gz:ea) (out:List (Int×Unit)) (d:Int):(iE xs c id gz out d).length≤out.length+1:=by
 unfold iE
 split
 ·omega
 ·split
  ·simp
  ·omega
noncomputable def eZ (xs:List ea) (c:Int) (ms:List (Int×Unit)) (id:Int):List (Int×Unit):=
 match gR xs c id with
 |none=>[]
 |some gz=>ms.foldl (fun out m=>iE xs c id gz out m.1) []
theorem zH (xs:List (Int×Unit)) (d:Int) (h:xs.length≤1048576):dw xs d=some (decide ((d,())∈xs),()):=by
 have hl:=sK (round:=eO) (n:=xs.length) (fun k=>(xs,d,((k:Nat):Int),())) (fun k=>some (if (d,())∈xs.drop k then .inr (true,()) else .inl ()))
  ⟨.inl (),by simp only [eO,kS,aN,cond_false],by rw [List.drop_length];rfl⟩ (fun k hk=>by
   rw [List.drop_eq_getElem_cons hk];simp only [eO,kS,aF hk,ax,cond_true,aG,List.getElem?_eq_getElem hk,Option.bind_some,aM (show k<4611686018427387904 by omega)]
   by_cases e:xs[k].1=d
   ·rw [ak e];exact .inl ⟨_,rfl,by rw [if_pos (List.mem_cons.2 (.inl (by rw [←e])))]⟩
   ·rw [aq e];refine .inr ⟨rfl,?_⟩;have:((d,())∈xs[k]::xs.drop (k+1))↔((d,())∈xs.drop (k+1)):=by
     rw [List.mem_cons];exact ⟨fun h=>h.resolve_left (fun q=>e (by rw [←q])),.inr⟩
    by_cases q:(d,())∈xs.drop (k+1)
    ·rw [if_pos q,if_pos (this.2 q)]
    ·rw [if_neg q,if_neg (fun z=>q (this.1 z))]) 0 (Nat.zero_le _)
 unfold dw;have hl:aJ eO (xs,d,(0:Int),())=_:=hl;rw [hl,List.drop_zero]
 by_cases q:(d,())∈xs
 ·rw [if_pos q,ak q];rfl
 ·rw [if_neg q,aq q];rfl
theorem MC (xs:List (Int×Unit)) (d:Int) (h:xs.length≤1048576):cM xs d=some (decide ((d,())∈xs),()):=by
 obtain ⟨b,h1,h2⟩:=pq d xs h;rw [zH xs d h] at h1;injection h1 with h1;injection h1 with h1 _;rw [h2,h1]
theorem u7 {α β:Type} (f:β→α→β) (b:β) (xs:List α) {k:Nat} (hk:k<xs.length):(xs.take (k+1)).foldl f b=f ((xs.take k).foldl f b) xs[k]:=by
 rw [List.take_succ_eq_append_getElem hk,List.foldl_append];rfl
theorem zI (xs:List ea) (c id:Int) (gz:ea) (ms:List (Int×Unit)) (out:List (Int×Unit)):(ms.foldl (fun out m=>iE xs c id gz out m.1) out).length≤out.length+ms.length:=by
 induction ms generalizing out with
 |nil=>simp
 |cons m ms ih=>
  rw [List.foldl_cons,List.length_cons];have h1:=ih (iE xs c id gz out m.1);have h2:=Ei xs c id gz out m.1;omega
theorem sE (bH:Int) (bJ:List (Int×Unit)) (xs:List ea) (id:Int) (h0:bJ.length≤1048576) (h:jm xs) :
  iI bH bJ xs id=some (eZ xs bH bJ id,())∧iK bH bJ xs id=some (eZ xs bH bJ id,())∧(eZ xs bH bJ id).length≤bJ.length:=by
 have UM:=h.len;unfold iI iK eZ;delta aA;rw [sf _ _ _ _ h,wq _ _ _ _ h]
 cases hm:gR xs bH id with
 |none=>exact ⟨rfl,rfl,Nat.zero_le _⟩
 |some gz=>
  have wC:=(Fv hm).2.1;have hlen:=zI xs bH id gz bJ [];rw [List.length_nil,Nat.zero_add] at hlen;have hk8:∀k,k<bJ.length→Nat.ble ((((bJ.take k).foldl (fun out m=>iE xs bH id gz out m.1) []).length+1)*8) lim=true:=fun k hk=>by
   have:=zI xs bH id gz (bJ.take k) [];rw [List.length_nil,Nat.zero_add,List.length_take] at this;exact aS (by unfold lim;omega)
  have Gx:∀k,k<bJ.length→((bJ.take k).foldl (fun out m=>iE xs bH id gz out m.1) []).length≤1048576:=fun k hk=>by
   have:=zI xs bH id gz (bJ.take k) [];rw [List.length_nil,Nat.zero_add,List.length_take] at this;omega
  have l1:=ck (round:=fj) (e:=.inl (bJ.foldl (fun out m=>iE xs bH id gz out m.1) [],())) bJ.length (fun k=>(xs,id,bH,bJ,(bJ.take k).foldl (fun out m=>iE xs bH id gz out m.1) [],gz.1,gz.2.1,gz.2.2.1,gz.2.2.2.1,((k:Nat):Int),())) (by
   simp only [fj,bC,iC,aN,cond_false,List.take_length]) (fun k hk=>by
   rw [u7 _ _ _ hk];have e8:=hk8 k hk;have ei:=Gx k hk;generalize (bJ.take k).foldl (fun out m=>iE xs bH id gz out m.1) []=out at e8 ei ⊢;simp only [fj,bC,iC,aF hk,ax,cond_true,aG,List.getElem?_eq_getElem hk,Option.bind_some,sf _ _ _ _ h,aM (show k<4611686018427387904 by omega)];unfold iE
   cases hb:gR xs bH bJ[k].1 with
   |none=>rfl
   |some b=>
    have hf:=(Fv hb).2.1;simp only [tR,hf,zH _ _ ei,Option.bind_some,cond_true,e8]
    by_cases q1:bJ[k].1=id
    ·rw [ak q1]
     by_cases q3:(bJ[k].1,())∈out
     ·rw [ak q3,if_neg (fun z=>z.2 q3)];rfl
     ·rw [aq q3,if_pos ⟨.inl q1,q3⟩];rfl
    rw [aq q1]
    by_cases q2:b.2.2.1=gz.2.2.1
    ·rw [ak q2]
     by_cases q4:0<b.2.2.1
     ·rw [ak q4]
      by_cases q3:(bJ[k].1,())∈out
      ·rw [ak q3,if_neg (fun z=>z.2 q3)];rfl
      ·rw [aq q3,if_pos ⟨.inr ⟨q2,q4⟩,q3⟩];rfl
     ·rw [aq q4,if_neg (fun z=>z.1.elim q1 (fun w=>q4 w.2))];rfl
    ·rw [aq q2,if_neg (fun z=>z.1.elim q1 (fun w=>q2 w.1))];rfl)
  have l2:=ck (round:=gh) (e:=.inl (bJ.foldl (fun out m=>iE xs bH id gz out m.1) [],())) bJ.length (fun k=>(xs,id,bH,bJ,gz.1,gz.2.1,gz.2.2.1,gz.2.2.2.1,(bJ.take k).foldl (fun out m=>iE xs bH id gz out m.1) [],bJ,((bJ.length:Nat):Int),((k:Nat):Int),())) (by
   simp only [gh,gC,nN,aN,cond_false,List.take_length]) (fun k hk=>by
   rw [u7 _ _ _ hk];have e8:=hk8 k hk;have ei:=Gx k hk;generalize (bJ.take k).foldl (fun out m=>iE xs bH id gz out m.1) []=out at e8 ei ⊢;simp only [gh,gC,nN,aF hk,ax,cond_true,aG,List.getElem?_eq_getElem hk,Option.bind_some,wq _ _ _ _ h,aM (show k<4611686018427387904 by omega)];unfold iE
   cases hb:gR xs bH bJ[k].1 with
   |none=>rfl
   |some b=>
    simp only [tR,MC _ _ ei,Option.bind_some,cond_true,e8]
    by_cases q3:(bJ[k].1,())∈out
    ·rw [ak q3,if_neg (fun z=>z.2 q3)];rfl
    rw [aq q3]
    by_cases q1:bJ[k].1=id
    ·rw [ak q1,if_pos ⟨.inl q1,q3⟩];rfl
    rw [aq q1]
    by_cases q4:0<gz.2.2.1
    ·rw [ak q4]
     by_cases q2:b.2.2.1=gz.2.2.1
     ·rw [X6 q2,if_pos ⟨.inr ⟨q2,by omega⟩,q3⟩];rfl
     ·rw [Uf q2,if_neg (fun z=>z.1.elim q1 (fun w=>q2 w.1))];rfl
    ·rw [aq q4,if_neg (fun z=>z.1.elim q1 (fun w=>q4 (by omega)))];rfl)
  have l1:aJ fj (xs,id,bH,bJ,[],gz.1,gz.2.1,gz.2.2.1,gz.2.2.2.1,(0:Int),())=_:=l1;have l2:aJ gh (xs,id,bH,bJ,gz.1,gz.2.1,gz.2.2.1,gz.2.2.2.1,[],bJ,((bJ.length:Nat):Int),(0:Int),())=_:=l2;simp only [tR,Option.bind_some,Bool.not_true,cond_false,l1,l2];exact ⟨rfl,rfl,hlen⟩
end Go.TM
set_option linter.unusedSimpArgs false
set_option linter.unusedVariables false
namespace Go.TM
open Go
def yc (l:List (Int×Unit)) (n:Nat):Prop:=∀j (h:j<l.length),j<n→(decide (1≤l[j].1)&&decide (l[j].1≤2))=true
def kI (l:List (ByteArray×Unit)) (n:Nat):Prop:=∀j (h:j<l.length),j<n→ByteArray.size l[j].1≤60
def X9 (lv:List (Int×Unit)) (tx:List (ByteArray×Unit)):Sum (List (Int×Unit)×List (ByteArray×Unit)×Unit) (Bool×Unit)→Prop
 |.inl y=>y=(lv,tx,())∧yc lv (min lv.length tx.length)∧kI tx (min lv.length tx.length)
 |.inr b=>b.1=false∧¬(yc lv (min lv.length tx.length)∧kI tx (min lv.length tx.length))
theorem C0 (lv:List (Int×Unit)) (tx:List (ByteArray×Unit)) (h1:lv.length≤1048576) (h2:tx.length≤1048576):∃b,ss lv tx=some (b,())∧(b=true↔tx.length≤20∧lv.length=tx.length∧yc lv lv.length∧kI tx tx.length):=by
 obtain ⟨e,he,hq⟩:=dt (round:=jw) (x:=(lv,tx,((0:Nat):Int),())) (min lv.length tx.length) (fun k x=>x=(lv,tx,((k:Nat):Int),())∧yc lv k∧kI tx k) (X9 lv tx) (by
   rintro x ⟨rfl,g1,g2⟩
   refine ⟨.inl (lv,tx,()),?_,rfl,g1,g2⟩
   by_cases hb:min lv.length tx.length<tx.length
   ·have e:min lv.length tx.length=lv.length:=by omega
    simp only [jw,nZ,aF hb,cond_true];rw [e,aN];rfl
   ·have e:min lv.length tx.length=tx.length:=by omega
    simp only [jw,nZ];rw [e,aN];rfl) (by
   rintro k x hk ⟨rfl,g1,g2⟩
   have hl:k<lv.length:=by omega
   have ht:k<tx.length:=by omega
   simp only [jw,nZ,aF hl,aF ht,ax,cond_true,aG,List.getElem?_eq_getElem hl,List.getElem?_eq_getElem ht,Option.bind_some,mE,aM (show k<4611686018427387904 by omega)]
   cases hlv:(decide (1≤lv[k].1)&&decide (lv[k].1≤2))
   ·refine .inl ⟨.inr (false,()),rfl,rfl,fun hn => ?_⟩;have:=hn.1 k hl (by omega);rw [hlv] at this
    cases this
   ·by_cases hs:(60:Int)<((ByteArray.size tx[k].1:Nat):Int)
    ·rw [ak hs];refine .inl ⟨.inr (false,()),rfl,rfl,fun hn => ?_⟩;have:=hn.2 k ht (by omega);omega
    ·rw [aq hs];refine .inr ⟨_,rfl,rfl,fun j hj NL => ?_,fun j hj NL => ?_⟩
     ·by_cases e:j<k
      ·exact g1 j hj e
      ·have:j=k:=by omega
       subst this;exact hlv
     ·by_cases e:j<k
      ·exact g2 j hj e
      ·have:j=k:=by omega
       subst this;omega) ⟨rfl,fun j _ h=>by omega,fun j _ h=>by omega⟩
 unfold ss;rw [show (0:Int)=((0:Nat):Int) from rfl,he]
 cases e with
 |inr e=>
  obtain ⟨q1,q2⟩:=hq;refine ⟨false,by rw [←q1];rfl,⟨(fun h=>by cases h),fun ⟨w1,w2,w3,w4⟩ => ?_⟩⟩;exact absurd ⟨fun j hj hm=>w3 j hj hj,fun j hj hm=>w4 j hj hj⟩ q2
 |inl e=>
  obtain ⟨q1,q2,q3⟩:=hq;subst q1;simp only [jI]
  by_cases w1:((List.length tx:Nat):Int)≤20
  ·rw [ak w1];refine ⟨_,rfl,?_⟩;rw [decide_eq_true_eq]
   constructor
   ·intro w2;have w2:lv.length=tx.length:=by omega
    exact ⟨by omega,w2,fun j hj _=>q2 j hj (by omega),fun j hj _=>q3 j hj (by omega)⟩
   ·rintro ⟨_,w2,_⟩
    rw [w2]
  ·rw [aq w1];exact ⟨false,rfl,⟨(fun h=>by cases h),fun ⟨w2,_⟩=>by omega⟩⟩
theorem QD (tx:List (ByteArray×Unit)) (h2:tx.length≤1048576):∃b,sB tx=some (b,())∧(b=true↔kI tx tx.length):=by
 obtain ⟨e,he,hq⟩:=dt (round:=lB) (x:=(tx,((List.length tx:Nat):Int),((0:Nat):Int),())) tx.length (fun k x=>x=(tx,((List.length tx:Nat):Int),((k:Nat):Int),())∧kI tx k) (fun e=>(e=.inl ()∧kI tx tx.length)∨(e=.inr (false,())∧¬kI tx tx.length)) (by
   rintro x ⟨rfl,g2⟩
   exact ⟨.inl (),by simp only [lB,rY,aN,cond_false],.inl ⟨rfl,g2⟩⟩) (by
   rintro k x hk ⟨rfl,g2⟩
   simp only [lB,rY,aF hk,ax,cond_true,aG,List.getElem?_eq_getElem hk,Option.bind_some,aM (show k<4611686018427387904 by omega)]
   by_cases hs:(60:Int)<((ByteArray.size tx[k].1:Nat):Int)
   ·rw [ak hs];refine .inl ⟨.inr (false,()),rfl,.inr ⟨rfl,fun hn => ?_⟩⟩;have:=hn k hk hk;omega
   ·rw [aq hs];refine .inr ⟨_,rfl,rfl,fun j hj NL => ?_⟩
    by_cases e:j<k
    ·exact g2 j hj e
    ·have:j=k:=by omega
     subst this;omega) ⟨rfl,fun j _ h=>by omega⟩
 unfold sB;rw [show (0:Int)=((0:Nat):Int) from rfl,he];rcases hq with ⟨rfl,q⟩ | ⟨rfl,q⟩
 ·exact ⟨true,rfl,⟨fun _=>q,fun _=>rfl⟩⟩
 ·exact ⟨false,rfl,⟨(fun h=>by cases h),fun h=>absurd h q⟩⟩
theorem zJ (c0 c1 c2 c3 c4:Int) (xs:List (Int×Unit)):∃b,fm c0 c1 c2 c3 c4 xs=some (b,())∧dM c0 c1 c2 c3 c4 xs=some (b,()):=by
 unfold fm qu dM
 cases decide (c0=0)
 ·exact ⟨_,rfl,rfl⟩
 cases decide (c1=0)
 ·exact ⟨_,rfl,rfl⟩
 cases decide (c2=0)
 ·exact ⟨_,rfl,rfl⟩
 cases decide (c3=0)
 ·exact ⟨_,rfl,rfl⟩
 cases decide (c4=0)
 ·exact ⟨_,rfl,rfl⟩
 cases xs with
 |nil=>
  have hl:=ck (round:=jb) (e:=.inl ()) 0 (fun k=>(([]:List (Int×Unit)),([]:List (Int×Unit)),((k:Nat):Int),())) (by
   simp only [jb,ua,List.length_nil,aN,cond_false]) (fun k hk=>by omega)
  have hl:aJ jb (([]:List (Int×Unit)),([]:List (Int×Unit)),(0:Int),())=_:=hl;refine ⟨true,?_,rfl⟩;simp only [cond_true,nY,List.length_nil,decide_true,Bool.not_true,cond_false,hl,jI,Option.bind_some]
 |cons x xs=>
  have e:decide (((List.length (x::xs):Nat):Int)=(0:Int))=false:=aq (by rw [List.length_cons];omega);have e2:decide (((List.length (x::xs):Nat):Int)=((List.length ([]:List (Int×Unit)):Nat):Int))=false:=e;refine ⟨false,?_,?_⟩
  ·simp only [cond_true,nY,e2,Bool.not_false,Option.bind_some]
  ·simp only [cond_true,e]
abbrev abL:Type:=Int×Int×(List (Int×Unit))×aU×(List (Int×Unit))×(List (ByteArray×Unit))×Int×Int×Int×Int×Int×Int×Int×Int×Int×(List (Int×Unit))×Unit
def ahd (m:abL) (lv:List (Int×Unit)):Sum abL (Bool×Unit)→Prop
 |.inl y=>y=m∧yc lv lv.length
 |.inr b=>b.1=false∧¬yc lv lv.length
theorem Gf (eJ:Int) (eB:Int) (dP:List (Int×Unit)) (dL:List (Int×Int×Int×ByteArray×Unit)) (dv:List (Int×Unit)) (dQ:List (ByteArray×Unit)) (eS:Int) (fc:Int) (fe:Int) (ff:Int) (cG:Int) (cH:Int) (cI:Int) (cJ:Int) (cK:Int) (cz:List (Int×Unit))
  (h0:(List.length dP+wl jR dP)+(List.length dL+wl dF dL)+(List.length dv+wl jR dv)+(List.length dQ+wl JK dQ)+(List.length cz+wl jR cz)≤1048576):∃o0,fh eJ eB dP dL dv dQ eS fc fe ff cG cH cI cJ cK cz=some (o0,())∧gQ eJ eB dP dL dv dQ eS fc fe ff cG cH cI cJ cK cz=some (o0,()):=by
 obtain ⟨b1,r1,r2,_⟩:=BO eB dP (by omega);obtain ⟨b2,c1,c2⟩:=pq eJ dP (by omega);obtain ⟨b3,i1,i2⟩:=CZ dL (by omega);obtain ⟨b4,t1,t2⟩:=C0 dv dQ (by omega) (by omega);obtain ⟨b5,s1,s2⟩:=QD dQ (by omega);obtain ⟨n,a1,a2,_⟩:=Eg dL (by omega);obtain ⟨b6,z1,z2⟩:=zJ cG cH cI cJ cK cz;obtain ⟨b7,k1,k2,_⟩:=wo cG cH cI cJ cK cz (by omega);obtain ⟨e,he,hq⟩:=dt (round:=lD) (x:=(eJ,eB,dP,dL,dv,dQ,eS,fc,fe,ff,cG,cH,cI,cJ,cK,cz,dv,((List.length dv:Nat):Int),((0:Nat):Int),())) dv.length
  (fun k x=>x=(eJ,eB,dP,dL,dv,dQ,eS,fc,fe,ff,cG,cH,cI,cJ,cK,cz,dv,((List.length dv:Nat):Int),((k:Nat):Int),())∧yc dv k)
  (ahd (eJ,eB,dP,dL,dv,dQ,eS,fc,fe,ff,cG,cH,cI,cJ,cK,cz,()) dv) (by
   rintro x ⟨rfl,g⟩
   exact ⟨.inl _,by simp only [lD,ba,vZ,aN,cond_false],rfl,g⟩) (by
   rintro k x hk ⟨rfl,g⟩
   simp only [lD,ba,vZ,aF hk,ax,cond_true,aG,List.getElem?_eq_getElem hk,Option.bind_some,Ef,aM (show k<4611686018427387904 by omega)]
   cases hlv:(decide (1≤dv[k].1)&&decide (dv[k].1≤2))
   ·refine .inl ⟨.inr (false,()),rfl,rfl,fun hn => ?_⟩;have:=hn k hk hk;rw [hlv] at this
    cases this
   ·refine .inr ⟨_,rfl,rfl,fun j hj NL => ?_⟩
    by_cases e:j<k
    ·exact g j hj e
    ·have:j=k:=by omega
     subst this;exact hlv) ⟨rfl,fun j _ h=>by omega⟩
 have he:aJ lD (eJ,eB,dP,dL,dv,dQ,eS,fc,fe,ff,cG,cH,cI,cJ,cK,cz,dv,((List.length dv:Nat):Int),(0:Int),())=some e:=he;unfold fh gQ;delta aT;simp only [r1,r2,c1,c2,i1,i2,t1,s1,Option.bind_some,he]
 cases b1
 ·cases b2
  ·exact ⟨_,rfl,rfl⟩
  ·exact ⟨_,rfl,rfl⟩
 cases b2
 ·exact ⟨_,rfl,rfl⟩
 cases b3
 ·exact ⟨_,rfl,rfl⟩
 simp only [Bool.not_true,cond_false]
 by_cases w1:(20:Int)<((List.length dQ:Nat):Int)
 ·have:b4=false:=by
   cases b4
   ·rfl
   ·have:=(t2.1 rfl).1;omega
  subst this;rw [ak w1];exact ⟨_,rfl,rfl⟩
 rw [aq w1]
 cases b5
 ·have:b4=false:=by
   cases b4
   ·rfl
   ·have:=s2.2 (t2.1 rfl).2.2.2;cases this
  subst this;exact ⟨_,rfl,rfl⟩
 by_cases w2:((List.length dv:Nat):Int)=((List.length dQ:Nat):Int)
 case neg=>
  have:b4=false:=by
   cases b4
   ·rfl
   ·have:=(t2.1 rfl).2.1;omega
  subst this;rw [aq w2];exact ⟨_,rfl,rfl⟩
 rw [ak w2]
 cases e with
 |inr e=>
  obtain ⟨q1,q2⟩:=hq;have:b4=false:=by
   cases b4
   ·rfl
   ·exact absurd (t2.1 rfl).2.2.1 q2
  subst this;refine ⟨false,rfl,?_⟩;show some (e.1,())=_;rw [q1]
 |inl e=>
  obtain ⟨q1,q2⟩:=hq;subst q1;have:b4=true:=t2.2 ⟨by omega,by omega,q2,s2.1 rfl⟩;subst this;simp only [Bool.not_true,cond_false,jI,a1,a2,z1,z2,k1,k2,mE,wm,Option.bind_some]
  cases (decide (0≤eS)&&decide (eS≤1000000000))
  ·exact ⟨_,rfl,rfl⟩
  cases (decide (0≤fc)&&decide (fc≤60))
  ·exact ⟨_,rfl,rfl⟩
  cases (decide (0≤fe)&&decide (fe≤((n:Nat):Int)))
  ·exact ⟨_,rfl,rfl⟩
  cases (decide (0≤ff)&&decide (ff≤((n:Nat):Int)))
  ·exact ⟨_,rfl,rfl⟩
  cases b6
  ·exact ⟨_,rfl,rfl⟩
  ·exact ⟨_,rfl,rfl⟩
end Go.TM
set_option linter.unusedSimpArgs false
set_option linter.unusedVariables false
namespace Go.TM
open Go
def p8 (r:dY):Prop:=(1≤r.1∧r.1≤60)∧(1≤r.2.1∧r.2.1≤5)∧(1≤r.2.2.1∧r.2.2.1≤2)∧ByteArray.size r.2.2.2.1≤60
def fa (xs:aU) (n:Nat):Prop:=∀k (h:k<xs.length),k<n→p8 xs[k]∧∀h0:0<k,xs[k-1].1<xs[k].1
theorem OB (a b c:Int) (s:ByteArray):∃x,kC a b c s=some (x,())∧lT a b c s=some (x,())∧(x=true↔p8 (a,b,c,s,())):=by
 have hi:∀ {p q r:Prop} [Decidable p] [Decidable q],(decide p&&decide q)=false→¬((p∧q)∧r):=by
  intro p q r _ _ h ⟨h1,_⟩;rw [decide_eq_true h1.1,decide_eq_true h1.2] at h
  cases h
 unfold kC lT p8;simp only [mE,wm,pZ,Ef,Option.bind_some]
 cases h1:(decide (1≤a)&&decide (a≤60))
 ·exact ⟨false,rfl,rfl,⟨fun h=>(by cases h),fun h=>absurd h (hi h1)⟩⟩
 rw [Bool.and_eq_true,decide_eq_true_eq,decide_eq_true_eq] at h1
 cases h2:(decide (1≤b)&&decide (b≤5))
 ·exact ⟨false,rfl,rfl,⟨fun h=>(by cases h),fun h=>absurd h.2 (hi h2)⟩⟩
 rw [Bool.and_eq_true,decide_eq_true_eq,decide_eq_true_eq] at h2
 cases h3:(decide (1≤c)&&decide (c≤2))
 ·exact ⟨false,rfl,rfl,⟨fun h=>(by cases h),fun h=>absurd h.2.2 (hi h3)⟩⟩
 rw [Bool.and_eq_true,decide_eq_true_eq,decide_eq_true_eq] at h3;refine ⟨_,rfl,rfl,?_⟩;rw [decide_eq_true_eq];exact ⟨fun h=>⟨h1,h2,h3,by omega⟩,fun h=>by have:=h.2.2.2;omega⟩
theorem Lq (xs:aU) (h:xs.length≤1048576):∃b,gp xs=some (b,())∧jh xs=some (b,())∧(b=true↔fa xs xs.length):=by
 obtain ⟨b,h1,h2⟩:=CZ xs h;refine ⟨b,h1,h2,?_⟩;obtain ⟨e,he,hq⟩:=dt (round:=fO) (x:=(xs,((0:Nat):Int),())) xs.length (fun k x=>x=(xs,((k:Nat):Int),())∧fa xs k) (fun e=>(e=.inl ()∧fa xs xs.length)∨(e=.inr (false,())∧¬fa xs xs.length)) (by
   rintro x ⟨rfl,g⟩
   exact ⟨.inl (),by simp only [fO,mn,aw,aN,cond_false],.inl ⟨rfl,g⟩⟩) (by
   rintro k x hk ⟨rfl,g⟩
   obtain ⟨b,r1,_,r3⟩:=OB xs[k].1 xs[k].2.1 xs[k].2.2.1 xs[k].2.2.2.1;have r3:b=true↔p8 xs[k]:=r3;simp only [fO,mn,aw,aF hk,ax,cond_true,aG,List.getElem?_eq_getElem hk,Option.bind_some,r1,aM (show k<4611686018427387904 by omega)];have more:p8 xs[k]→(∀h0:0<k,xs[k-1].1<xs[k].1)→fa xs (k+1):=fun q1 q2 j hj NL=>by
    by_cases e:j<k
    ·exact g j hj e
    ·have:j=k:=by omega
     subst this;exact ⟨q1,q2⟩
   cases b
   ·exact .inl ⟨.inr (false,()),rfl,.inr ⟨rfl,fun hn=>absurd (r3.2 (hn k hk hk).1) (by simp)⟩⟩
   ·have q1:=r3.1 rfl
    by_cases h0:0<k
    ·have hp:k-1<xs.length:=by omega
     rw [u6 h0 (by omega)];simp only [ak (show (0:Int)<((k:Nat):Int) by omega),Bool.not_true,cond_false,cond_true,ax,aG,List.getElem?_eq_getElem hp,Option.bind_some]
     by_cases hs:xs[k].1≤xs[k-1].1
     ·rw [ak hs];refine .inl ⟨.inr (false,()),rfl,.inr ⟨rfl,fun hn => ?_⟩⟩;have:=(hn k hk hk).2 h0;omega
     ·rw [aq hs];exact .inr ⟨_,rfl,rfl,more q1 (fun _=>by omega)⟩
    ·have:k=0:=by omega
     subst this;simp only [aq (show ¬(0:Int)<((0:Nat):Int) by omega),Bool.not_true,cond_false];exact .inr ⟨_,rfl,rfl,more q1 (fun h=>absurd h (by omega))⟩) ⟨rfl,fun j _ h=>by omega⟩
 have he:aJ fO (xs,(0:Int),())=some e:=he;unfold gp at h1;rw [he] at h1;rcases hq with ⟨rfl,g⟩ | ⟨rfl,g⟩
 ·injection h1 with h1;injection h1 with h1 _;exact ⟨fun _=>g,fun _=>h1.symm⟩
 ·injection h1 with h1;injection h1 with h1 _;subst h1;exact ⟨fun h=>(by cases h),fun h=>absurd h g⟩
theorem Lr {α:Type} (f:α→Nat) (c:Nat):(xs:List α)→(∀x∈xs,f x≤c)→wl f xs≤c*xs.length
 | [],_=>Nat.zero_le _
 |x::xs,h=>by
  rw [sq,List.length_cons,Nat.mul_succ];have:=Lr f c xs (fun y hy=>h y (List.mem_cons_of_mem _ hy));have:=h x List.mem_cons_self;omega
theorem Ls (xs:aU) (h:fa xs xs.length):∀k (hk:k<xs.length),((k+1:Nat):Int)≤xs[k].1
 |0,hk=>by have:=(h 0 hk hk).1.1.1;omega
 |k+1,hk=>by
  have h1:=Ls xs h k (by omega);have h2:=(h (k+1) hk hk).2 (by omega);have h2:xs[k].1<xs[k+1].1:=h2;omega
theorem dm (xs:aU) (h:fa xs xs.length):xs.length≤60∧wl dF xs≤3600:=by
 have h1:xs.length≤60:=by
  by_cases h0:0<xs.length
  ·have:=Ls xs h (xs.length-1) (by omega);have:=(h (xs.length-1) (by omega) (by omega)).1.1.2;omega
  ·omega
 refine ⟨h1,Nat.le_trans (Lr dF 60 xs fun x hx => ?_) (by omega)⟩;obtain ⟨k,hk,rfl⟩:=List.mem_iff_getElem.1 hx;exact (h k hk hk).1.2.2.2
theorem Gg (xs:List (ByteArray×Unit)) (h:kI xs xs.length):wl JK xs≤60*xs.length:=by
 refine Lr JK 60 xs fun x hx => ?_
 obtain ⟨k,hk,rfl⟩:=List.mem_iff_getElem.1 hx;exact h k hk hk
structure Ya (c0 c1:Int) (c2:List (Int×Unit)) (c3:aU) (c4:List (Int×Unit)) (c5:List (ByteArray×Unit)) (c6 c7 c8 c9:Int) (c15:List (Int×Unit)):Prop where
 ring:1≤c2.length∧c2.length≤5
 items:fa c3 c3.length
 texts:c5.length≤20∧c4.length=c5.length
 YY:yc c4 c4.length
 short:kI c5 c5.length
 round:0≤c6∧c6≤1000000000
 seen:0≤c7∧c7≤60
 aru:∃n:Nat,ic c3=some (((n:Nat):Int),())∧jP c3=some (((n:Nat):Int),())∧Sa c3 n∧(0≤c8∧c8≤((n:Nat):Int))∧0≤c9∧c9≤((n:Nat):Int)
 al0:c15.length≤20
theorem Ui {c0 c1 c2 c3 c4:Int} {xs:List (Int×Unit)} (h:dM c0 c1 c2 c3 c4 xs=some (true,())):xs.length=0:=by
 unfold dM at h
 by_cases h0:((List.length xs:Nat):Int)=0
 ·omega
 ·exfalso
  rw [aq h0] at h
  revert h
  cases decide (c0=(0:Int))<;>cases decide (c1=(0:Int))<;>cases decide (c2=(0:Int))<;>cases decide (c3=(0:Int))<;>cases decide (c4=(0:Int))<;>intro h<;>cases h
theorem lG {p q:Prop} [Decidable p] [Decidable q] (h:(decide p&&decide q)=true):p∧q:=by
 rw [Bool.and_eq_true,decide_eq_true_eq,decide_eq_true_eq] at h;exact h
theorem Yb (eJ:Int) (eB:Int) (dP:List (Int×Unit)) (dL:aU) (dv:List (Int×Unit)) (dQ:List (ByteArray×Unit)) (eS:Int) (fc:Int) (fe:Int) (ff:Int) (cG:Int) (cH:Int) (cI:Int) (cJ:Int) (cK:Int) (cz:List (Int×Unit))
  (h0:(List.length dP+wl jR dP)+(List.length dL+wl dF dL)+(List.length dv+wl jR dv)+(List.length dQ+wl JK dQ)+(List.length cz+wl jR cz)≤1048576):∃b,fh eJ eB dP dL dv dQ eS fc fe ff cG cH cI cJ cK cz=some (b,())∧gQ eJ eB dP dL dv dQ eS fc fe ff cG cH cI cJ cK cz=some (b,())∧
   (b=true→Ya eJ eB dP dL dv dQ eS fc fe ff cz):=by
 obtain ⟨b,k1,k2⟩:=Gf eJ eB dP dL dv dQ eS fc fe ff cG cH cI cJ cK cz h0;refine ⟨b,k1,k2,fun hb => ?_⟩;subst hb;obtain ⟨b1,r1,_,r3⟩:=BO eB dP (by omega);obtain ⟨b2,c1,_⟩:=pq eJ dP (by omega);obtain ⟨b3,i1,_,i3⟩:=Lq dL (by omega);obtain ⟨b4,t1,t2⟩:=C0 dv dQ (by omega) (by omega);obtain ⟨n,a1,a2,a3⟩:=Eg dL (by omega);obtain ⟨b6,z1,z2⟩:=zJ cG cH cI cJ cK cz;obtain ⟨b7,w1,_,w3⟩:=wo cG cH cI cJ cK cz (by omega);unfold fh at k1;simp only [r1,c1,i1,t1,a1,z1,w1,mE,Option.bind_some] at k1
 cases b1
 ·cases k1
 cases b2
 ·cases k1
 cases b3
 ·cases k1
 cases b4
 ·cases k1
 simp only [Bool.not_true,cond_false] at k1
 cases e5:(decide ((0:Int)≤eS)&&decide (eS≤1000000000))
 ·rw [e5] at k1;cases k1
 cases e6:(decide ((0:Int)≤fc)&&decide (fc≤60))
 ·rw [e5,e6] at k1;cases k1
 cases e8:(decide ((0:Int)≤fe)&&decide (fe≤((n:Nat):Int)))
 ·rw [e5,e6,e8] at k1;cases k1
 cases e9:(decide ((0:Int)≤ff)&&decide (ff≤((n:Nat):Int)))
 ·rw [e5,e6,e8,e9] at k1;cases k1
 rw [e5,e6,e8,e9] at k1;obtain ⟨t3,t4,t5,t6⟩:=t2.1 rfl;refine ⟨r3 rfl,i3.1 rfl,⟨t3,t4⟩,t5,t6,lG e5,lG e6,⟨n,a1,a2,a3,lG e8,lG e9⟩,?_⟩
 cases b6
 ·cases b7
  ·cases k1
  ·exact (w3 rfl).2.2.2.2.1
 ·have:=Ui z2;omega
theorem Ya.small {c0 c1:Int} {c2:List (Int×Unit)} {c3:aU} {c4:List (Int×Unit)} {c5:List (ByteArray×Unit)} {c6 c7 c8 c9:Int} {c15:List (Int×Unit)} (h:Ya c0 c1 c2 c3 c4 c5 c6 c7 c8 c9 c15) :
  (List.length c2+wl jR c2)+(List.length c3+wl dF c3)+(List.length c4+wl jR c4)+(List.length c5+wl JK c5)+(List.length c15+wl jR c15)≤5000:=by
 have h1:=dm c3 h.items;have h2:=Gg c5 h.short;have h3:=h.texts;have h4:=h.ring;have h5:=h.al0;rw [nb jR (fun _=>rfl),nb jR (fun _=>rfl),nb jR (fun _=>rfl)];omega
theorem w8 (xs:aU) (h:xs.length≤1048576):dk xs=some (xs,()):=by
 unfold dk;rw [aS (show (0+xs.length)*40≤lim by unfold lim;omega)];rfl
theorem MD (xs:List (ByteArray×Unit)) (h:xs.length≤1048576):la xs=some (xs,()):=by
 unfold la;rw [aS (show (0+xs.length)*16≤lim by unfold lim;omega)];rfl
theorem nR (eJ:Int) (eB:Int) (dP:List (Int×Unit)) (dL:aU) (dv:List (Int×Unit)) (dQ:List (ByteArray×Unit)) (eS:Int) (fc:Int) (fe:Int) (ff:Int) (cG:Int) (cH:Int) (cI:Int) (cJ:Int) (cK:Int) (cz:List (Int×Unit))
  (h0:(List.length dP+wl jR dP)+(List.length dL+wl dF dL)+(List.length dv+wl jR dv)+(List.length dQ+wl JK dQ)+(List.length cz+wl jR cz)≤1048576) :
  gr eJ eB dP dL dv dQ eS fc fe ff cG cH cI cJ cK cz=some (eJ,eB,dP,dL,dv,dQ,eS,fc,fe,ff,cG,cH,cI,cJ,cK,cz,())∧
  fL eJ eB dP dL dv dQ eS fc fe ff cG cH cI cJ cK cz=some (eJ,eB,dP,dL,dv,dQ,eS,fc,fe,ff,cG,cH,cI,cJ,cK,cz,()):=by
 obtain ⟨t1,t2⟩:=mf cG cH cI cJ cK cz (by omega)
 constructor
 ·unfold gr;rw [aS (show (0+dP.length)*8≤lim by unfold lim;omega),aS (show (0+dL.length)*40≤lim by unfold lim;omega),aS (show (0+dv.length)*8≤lim by unfold lim;omega),aS (show (0+dQ.length)*16≤lim by unfold lim;omega),t1];rfl
 ·unfold fL bM;rw [lF dP (by omega),w8 dL (by omega),lF dv (by omega),MD dQ (by omega),t2];rfl
end Go.TM
set_option linter.unusedSimpArgs false
set_option linter.unusedVariables false
namespace Go.TM
open Go
abbrev dG:Type:=List (Int×Unit)
abbrev kJ:Type:=Int×Int×Int×Int×Int×dG×Unit
abbrev iG:Type:=Int×Int×dG×aU×dG×(List (ByteArray×Unit))×Int×Int×Int×Int×Int×Int×Int×Int×Int×dG×Unit
abbrev wu:Type:=Int×Int×dG×Int×Int×Int×ByteArray×dG×Unit
abbrev bY:Type:=Int×Bool×Int×Int×dG×aU×dG×(List (ByteArray×Unit))×Int×Int×Int×Int×Int×Int×Int×Int×Int×dG×Int×Int×Int×dG×(List ea)×(List wu)×Unit
def OC (xs:dG) (n:Nat):Prop:=∀k (h:k<xs.length),k<n→(1≤xs[k].1∧xs[k].1≤5)∧∀h0:0<k,xs[k-1].1<xs[k].1
def lU (c:Int) (xs:dG):Prop:=(1≤c∧c≤9)∧(1≤xs.length∧xs.length≤5)∧OC xs xs.length
theorem Yc (c:Int) (xs:dG) (h:xs.length≤1048576):∃b,ec c xs=some (b,())∧gP c xs=some (b,())∧(b=true↔lU c xs):=by
 obtain ⟨b,h1,h2,_⟩:=BO c xs h;refine ⟨b,h1,h2,?_⟩;obtain ⟨e,he,hq⟩:=dt (round:=gl) (x:=(c,xs,((0:Nat):Int),())) xs.length (fun k x=>x=(c,xs,((k:Nat):Int),())∧OC xs k) (fun e=>(e=.inl ()∧OC xs xs.length)∨(e=.inr (false,())∧¬OC xs xs.length)) (by
   rintro x ⟨rfl,g⟩
   exact ⟨.inl (),by simp only [gl,nE,aN,cond_false],.inl ⟨rfl,g⟩⟩) (by
   rintro k x hk ⟨rfl,g⟩
   simp only [gl,nE,aF hk,ax,cond_true,aG,List.getElem?_eq_getElem hk,Option.bind_some,mE,aM (show k<4611686018427387904 by omega)];have more:(1≤xs[k].1∧xs[k].1≤5)→(∀h0:0<k,xs[k-1].1<xs[k].1)→OC xs (k+1):=fun q1 q2 j hj NL=>by
    by_cases e:j<k
    ·exact g j hj e
    ·have:j=k:=by omega
     subst this;exact ⟨q1,q2⟩
   cases hb:(decide (1≤xs[k].1)&&decide (xs[k].1≤5))
   ·exact .inl ⟨.inr (false,()),rfl,.inr ⟨rfl,fun hn=>by
     have:=(hn k hk hk).1;rw [ak this.1,ak this.2] at hb
     cases hb⟩⟩
   ·have q1:=lG hb
    by_cases h0:0<k
    ·have hp:k-1<xs.length:=by omega
     rw [u6 h0 (by omega)];simp only [ak (show (0:Int)<((k:Nat):Int) by omega),Bool.not_true,cond_false,cond_true,ax,aG,List.getElem?_eq_getElem hp,Option.bind_some]
     by_cases hs:xs[k].1≤xs[k-1].1
     ·rw [ak hs];refine .inl ⟨.inr (false,()),rfl,.inr ⟨rfl,fun hn => ?_⟩⟩;have:=(hn k hk hk).2 h0;omega
     ·rw [aq hs];exact .inr ⟨_,rfl,rfl,more q1 (fun _=>by omega)⟩
    ·have:k=0:=by omega
     subst this;simp only [aq (show ¬(0:Int)<((0:Nat):Int) by omega),Bool.not_true,cond_false];exact .inr ⟨_,rfl,rfl,more q1 (fun h=>absurd h (by omega))⟩) ⟨rfl,fun j _ h=>by omega⟩
 have he:aJ gl (c,xs,(0:Int),())=some e:=he;unfold ec at h1;simp only [mE,Option.bind_some,he] at h1;unfold lU
 cases a1:(decide (1≤c)&&decide (c≤9))
 ·rw [a1] at h1;injection h1 with h1;injection h1 with h1 _;subst h1;refine ⟨fun h=>(by cases h),fun h => ?_⟩;rw [ak h.1.1,ak h.1.2] at a1
  cases a1
 cases a2:(decide (1≤((List.length xs:Nat):Int))&&decide (((List.length xs:Nat):Int)≤5))
 ·rw [a1,a2] at h1;injection h1 with h1;injection h1 with h1 _;subst h1;refine ⟨fun h=>(by cases h),fun h => ?_⟩;rw [ak (show (1:Int)≤((List.length xs:Nat):Int) by omega),ak (show ((List.length xs:Nat):Int)≤5 by omega)] at a2
  cases a2
 rw [a1,a2] at h1;have a1:=lG a1;have a2:=lG a2;rcases hq with ⟨rfl,g⟩ | ⟨rfl,g⟩
 ·injection h1 with h1;injection h1 with h1 _;exact ⟨fun _=>⟨a1,by omega,g⟩,fun _=>h1.symm⟩
 ·injection h1 with h1;injection h1 with h1 _;subst h1;exact ⟨fun h=>(by cases h),fun h=>absurd h.2.2 g⟩
noncomputable def yd (c:Int) (xs:dG):Bool:=match ec c xs with | some x=>x.1 | none=>false
theorem qU (c:Int) (xs:dG) (h:xs.length≤1048576):ec c xs=some (yd c xs,())∧gP c xs=some (yd c xs,())∧(yd c xs=true↔lU c xs):=by
 obtain ⟨b,h1,h2,h3⟩:=Yc c xs h;have:yd c xs=b:=by unfold yd;rw [h1]
 rw [this];exact ⟨h1,h2,h3⟩
noncomputable def m6 (xs:aU):Bool:=match gp xs with | some x=>x.1 | none=>false
theorem pr (xs:aU) (h:xs.length≤1048576):gp xs=some (m6 xs,())∧jh xs=some (m6 xs,())∧(m6 xs=true↔fa xs xs.length):=by
 obtain ⟨b,h1,h2,h3⟩:=Lq xs h;have:m6 xs=b:=by unfold m6;rw [h1]
 rw [this];exact ⟨h1,h2,h3⟩
noncomputable def Ab (r:dY):Bool:=match kC r.1 r.2.1 r.2.2.1 r.2.2.2.1 with | some x=>x.1 | none=>false
theorem zK (r:dY):kC r.1 r.2.1 r.2.2.1 r.2.2.2.1=some (Ab r,())∧lT r.1 r.2.1 r.2.2.1 r.2.2.2.1=some (Ab r,())∧(Ab r=true↔p8 r):=by
 obtain ⟨b,h1,h2,h3⟩:=OB r.1 r.2.1 r.2.2.1 r.2.2.2.1;have:Ab r=b:=by unfold Ab;rw [h1]
 rw [this];exact ⟨h1,h2,h3⟩
def C1 (b:ea):Prop:=(1≤b.1∧b.1≤5)∧(1≤b.2.1∧b.2.1≤9)∧(0≤b.2.2.1∧b.2.2.1≤b.2.1-1)∧fa b.2.2.2.1 b.2.2.2.1.length∧(0<b.2.2.1∨b.2.2.2.1.length=0)
theorem qV {p q:Prop} [Decidable p] [Decidable q]:(decide p&&decide q)=true↔p∧q:=by
 rw [Bool.and_eq_true,decide_eq_true_eq,decide_eq_true_eq]
theorem ME (b:ea) (h:b.2.2.2.1.length≤1048576):p7 b=true↔C1 b:=by
 obtain ⟨h1,_⟩:=se b h;obtain ⟨i1,_,i3⟩:=pr b.2.2.2.1 h;unfold im at h1;simp only [mE,Option.bind_some,i1] at h1;unfold C1;rw [←i3]
 cases a1:(decide (1≤b.1)&&decide (b.1≤5))
 ·rw [a1] at h1;injection h1 with h1;injection h1 with h1 _;rw [←h1];exact ⟨fun h=>(by cases h),fun h=>by rw [qV.2 h.1] at a1;cases a1⟩
 cases a2:(decide (1≤b.2.1)&&decide (b.2.1≤9))
 ·rw [a1,a2] at h1;injection h1 with h1;injection h1 with h1 _;rw [←h1];exact ⟨fun h=>(by cases h),fun h=>by rw [qV.2 h.2.1] at a2;cases a2⟩
 have c2:=lG a2;rw [dq (by omega) (by omega)] at h1
 cases a3:(decide (0≤b.2.2.1)&&decide (b.2.2.1≤b.2.1-1))
 ·rw [a1,a2,a3] at h1;injection h1 with h1;injection h1 with h1 _;rw [←h1];exact ⟨fun h=>(by cases h),fun h=>by rw [qV.2 h.2.2.1] at a3;cases a3⟩
 cases a4:m6 b.2.2.2.1
 ·rw [a1,a2,a3,a4] at h1;injection h1 with h1;injection h1 with h1 _;rw [←h1];exact ⟨fun h=>(by cases h),fun h=>by cases h.2.2.2.1⟩
 rw [a1,a2,a3,a4] at h1
 by_cases a5:0<b.2.2.1
 ·rw [ak a5] at h1;injection h1 with h1;injection h1 with h1 _;rw [←h1];exact ⟨fun _=>⟨lG a1,c2,lG a3,rfl,.inl a5⟩,fun _=>rfl⟩
 ·rw [aq a5] at h1;injection h1 with h1;injection h1 with h1 _;rw [←h1];refine ⟨fun h=>⟨lG a1,c2,lG a3,rfl,.inr ?_⟩,fun h => ?_⟩
  ·have:=of_decide_eq_true h;omega
  ·exact decide_eq_true (by rcases h.2.2.2.2 with q | q<;>omega)
theorem Uj (c0 c1 c2 c3 c4:Int) (xs:dG):∃b,fm c0 c1 c2 c3 c4 xs=some (b,())∧dM c0 c1 c2 c3 c4 xs=some (b,())∧(b=true↔c0=0∧c1=0∧c2=0∧c3=0∧c4=0∧xs=[]):=by
 obtain ⟨b,h1,h2⟩:=zJ c0 c1 c2 c3 c4 xs;refine ⟨b,h1,h2,?_⟩;unfold dM at h2;have hl:((List.length xs:Nat):Int)=0↔xs=[]:=by rw [←List.length_eq_zero_iff];omega
 by_cases e0:c0=0
 case neg=>simp [aq e0] at h2;subst h2;simp [e0]
 by_cases e1:c1=0
 case neg=>simp [ak e0,aq e1] at h2;subst h2;simp [e1]
 by_cases e2:c2=0
 case neg=>simp [ak e0,ak e1,aq e2] at h2;subst h2;simp [e2]
 by_cases e3:c3=0
 case neg=>simp [ak e0,ak e1,ak e2,aq e3] at h2;subst h2;simp [e3]
 by_cases e4:c4=0
 case neg=>simp [ak e0,ak e1,ak e2,ak e3,aq e4] at h2;subst h2;simp [e4]
 by_cases e5:((List.length xs:Nat):Int)=0
 ·rw [ak e0,ak e1,ak e2,ak e3,ak e4,ak e5] at h2;injection h2 with h2;injection h2 with h2 _;exact ⟨fun _=>⟨e0,e1,e2,e3,e4,hl.1 e5⟩,fun _=>h2.symm⟩
 ·rw [ak e0,ak e1,ak e2,ak e3,ak e4,aq e5] at h2;injection h2 with h2;injection h2 with h2 _;subst h2;exact ⟨fun h=>(by cases h),fun h=>absurd (hl.2 h.2.2.2.2.2) e5⟩
def Blank (t:kJ):Prop:=t.1=0∧t.2.1=0∧t.2.2.1=0∧t.2.2.2.1=0∧t.2.2.2.2.1=0∧t.2.2.2.2.2.1=[]
noncomputable def wv (t:kJ):Bool:=match fm t.1 t.2.1 t.2.2.1 t.2.2.2.1 t.2.2.2.2.1 t.2.2.2.2.2.1 with | some x=>x.1 | none=>false
theorem wx (t:kJ):fm t.1 t.2.1 t.2.2.1 t.2.2.2.1 t.2.2.2.2.1 t.2.2.2.2.2.1=some (wv t,())∧dM t.1 t.2.1 t.2.2.1 t.2.2.2.1 t.2.2.2.2.1 t.2.2.2.2.2.1=some (wv t,())∧(wv t=true↔Blank t):=by
 obtain ⟨b,h1,h2,h3⟩:=Uj t.1 t.2.1 t.2.2.1 t.2.2.2.1 t.2.2.2.2.1 t.2.2.2.2.2.1;have:wv t=b:=by unfold wv;rw [h1]
 rw [this];exact ⟨h1,h2,h3⟩
def JL (t:kJ):Prop:=ahc t.1 t.2.1 t.2.2.1 t.2.2.2.1 t.2.2.2.2.1 t.2.2.2.2.2.1
noncomputable def JM (t:kJ):Bool:=match eU t.1 t.2.1 t.2.2.1 t.2.2.2.1 t.2.2.2.2.1 t.2.2.2.2.2.1 with | some x=>x.1 | none=>false
theorem C2 (t:kJ) (h:t.2.2.2.2.2.1.length≤1048576):eU t.1 t.2.1 t.2.2.1 t.2.2.2.1 t.2.2.2.2.1 t.2.2.2.2.2.1=some (JM t,())∧iw t.1 t.2.1 t.2.2.1 t.2.2.2.1 t.2.2.2.2.1 t.2.2.2.2.2.1=some (JM t,())∧(JM t=true↔JL t):=by
 obtain ⟨b,h1,h2,h3⟩:=Lo t.1 t.2.1 t.2.2.1 t.2.2.2.1 t.2.2.2.2.1 t.2.2.2.2.2.1 h;have:JM t=b:=by unfold JM;rw [h1]
 rw [this];exact ⟨h1,h2,h3⟩
noncomputable def cY (xs:aU):Nat:=match ic xs with | some x=>x.1.toNat | none=>0
theorem xC (xs:aU) (h:xs.length≤1048576):ic xs=some (((cY xs:Nat):Int),())∧jP xs=some (((cY xs:Nat):Int),())∧Sa xs (cY xs):=by
 obtain ⟨n,h1,h2,h3⟩:=Eg xs h;have:cY xs=n:=by unfold cY;rw [h1];rfl
 rw [this];exact ⟨h1,h2,h3⟩
structure qW (m:iG):Prop where
 ring:lU m.2.1 m.2.2.1
 mem:(m.1,())∈m.2.2.1
 items:fa m.2.2.2.1 m.2.2.2.1.length
 texts:m.2.2.2.2.2.1.length≤20∧m.2.2.2.2.1.length=m.2.2.2.2.2.1.length
 YY:yc m.2.2.2.2.1 m.2.2.2.2.1.length
 short:kI m.2.2.2.2.2.1 m.2.2.2.2.2.1.length
 round:0≤m.2.2.2.2.2.2.1∧m.2.2.2.2.2.2.1≤1000000000
 seen:0≤m.2.2.2.2.2.2.2.1∧m.2.2.2.2.2.2.2.1≤60
 line:0≤m.2.2.2.2.2.2.2.2.1∧m.2.2.2.2.2.2.2.2.1≤((cY m.2.2.2.1:Nat):Int)
 heard:0≤m.2.2.2.2.2.2.2.2.2.1∧m.2.2.2.2.2.2.2.2.2.1≤((cY m.2.2.2.1:Nat):Int)
 last:Blank (m.2.2.2.2.2.2.2.2.2.2.1,m.2.2.2.2.2.2.2.2.2.2.2.1,m.2.2.2.2.2.2.2.2.2.2.2.2.1,m.2.2.2.2.2.2.2.2.2.2.2.2.2.1,m.2.2.2.2.2.2.2.2.2.2.2.2.2.2.1,m.2.2.2.2.2.2.2.2.2.2.2.2.2.2.2.1,())∨JL (m.2.2.2.2.2.2.2.2.2.2.1,m.2.2.2.2.2.2.2.2.2.2.2.1,m.2.2.2.2.2.2.2.2.2.2.2.2.1,m.2.2.2.2.2.2.2.2.2.2.2.2.2.1,m.2.2.2.2.2.2.2.2.2.2.2.2.2.2.1,m.2.2.2.2.2.2.2.2.2.2.2.2.2.2.2.1,())
def mg (m:iG):Nat:=(List.length m.2.2.1+wl jR m.2.2.1)+(List.length m.2.2.2.1+wl dF m.2.2.2.1)+(List.length m.2.2.2.2.1+wl jR m.2.2.2.2.1)+(List.length m.2.2.2.2.2.1+wl JK m.2.2.2.2.2.1)+(List.length m.2.2.2.2.2.2.2.2.2.2.2.2.2.2.2.1+wl jR m.2.2.2.2.2.2.2.2.2.2.2.2.2.2.2.1)
noncomputable def sW (m:iG):Bool:=match fh m.1 m.2.1 m.2.2.1 m.2.2.2.1 m.2.2.2.2.1 m.2.2.2.2.2.1 m.2.2.2.2.2.2.1 m.2.2.2.2.2.2.2.1 m.2.2.2.2.2.2.2.2.1 m.2.2.2.2.2.2.2.2.2.1 m.2.2.2.2.2.2.2.2.2.2.1 m.2.2.2.2.2.2.2.2.2.2.2.1 m.2.2.2.2.2.2.2.2.2.2.2.2.1 m.2.2.2.2.2.2.2.2.2.2.2.2.2.1 m.2.2.2.2.2.2.2.2.2.2.2.2.2.2.1 m.2.2.2.2.2.2.2.2.2.2.2.2.2.2.2.1 with | some x=>x.1 | none=>false
theorem qX (m:iG) (h0:mg m≤1048576):fh m.1 m.2.1 m.2.2.1 m.2.2.2.1 m.2.2.2.2.1 m.2.2.2.2.2.1 m.2.2.2.2.2.2.1 m.2.2.2.2.2.2.2.1 m.2.2.2.2.2.2.2.2.1 m.2.2.2.2.2.2.2.2.2.1 m.2.2.2.2.2.2.2.2.2.2.1 m.2.2.2.2.2.2.2.2.2.2.2.1 m.2.2.2.2.2.2.2.2.2.2.2.2.1 m.2.2.2.2.2.2.2.2.2.2.2.2.2.1 m.2.2.2.2.2.2.2.2.2.2.2.2.2.2.1 m.2.2.2.2.2.2.2.2.2.2.2.2.2.2.2.1=some (sW m,())∧gQ m.1 m.2.1 m.2.2.1 m.2.2.2.1 m.2.2.2.2.1 m.2.2.2.2.2.1 m.2.2.2.2.2.2.1 m.2.2.2.2.2.2.2.1 m.2.2.2.2.2.2.2.2.1 m.2.2.2.2.2.2.2.2.2.1 m.2.2.2.2.2.2.2.2.2.2.1 m.2.2.2.2.2.2.2.2.2.2.2.1 m.2.2.2.2.2.2.2.2.2.2.2.2.1 m.2.2.2.2.2.2.2.2.2.2.2.2.2.1 m.2.2.2.2.2.2.2.2.2.2.2.2.2.2.1 m.2.2.2.2.2.2.2.2.2.2.2.2.2.2.2.1=some (sW m,())∧(sW m=true↔qW m):=by
 obtain ⟨b,k1,k2⟩:=Gf m.1 m.2.1 m.2.2.1 m.2.2.2.1 m.2.2.2.2.1 m.2.2.2.2.2.1 m.2.2.2.2.2.2.1 m.2.2.2.2.2.2.2.1 m.2.2.2.2.2.2.2.2.1 m.2.2.2.2.2.2.2.2.2.1 m.2.2.2.2.2.2.2.2.2.2.1 m.2.2.2.2.2.2.2.2.2.2.2.1 m.2.2.2.2.2.2.2.2.2.2.2.2.1 m.2.2.2.2.2.2.2.2.2.2.2.2.2.1 m.2.2.2.2.2.2.2.2.2.2.2.2.2.2.1 m.2.2.2.2.2.2.2.2.2.2.2.2.2.2.2.1 h0;have hb:sW m=b:=by unfold sW;rw [k1]
 rw [hb];refine ⟨k1,k2,?_⟩;unfold mg at h0;obtain ⟨r1,_,r3⟩:=qU m.2.1 m.2.2.1 (by omega);have c1:=zH m.2.2.1 m.1 (by omega);obtain ⟨i1,_,i3⟩:=pr m.2.2.2.1 (by omega);obtain ⟨b4,t1,t2⟩:=C0 m.2.2.2.2.1 m.2.2.2.2.2.1 (by omega) (by omega);obtain ⟨a1,a2,a3⟩:=xC m.2.2.2.1 (by omega);have z1:fm m.2.2.2.2.2.2.2.2.2.2.1 m.2.2.2.2.2.2.2.2.2.2.2.1 m.2.2.2.2.2.2.2.2.2.2.2.2.1 m.2.2.2.2.2.2.2.2.2.2.2.2.2.1 m.2.2.2.2.2.2.2.2.2.2.2.2.2.2.1 m.2.2.2.2.2.2.2.2.2.2.2.2.2.2.2.1=some (wv (m.2.2.2.2.2.2.2.2.2.2.1,m.2.2.2.2.2.2.2.2.2.2.2.1,m.2.2.2.2.2.2.2.2.2.2.2.2.1,m.2.2.2.2.2.2.2.2.2.2.2.2.2.1,m.2.2.2.2.2.2.2.2.2.2.2.2.2.2.1,m.2.2.2.2.2.2.2.2.2.2.2.2.2.2.2.1,()),()):=(wx (m.2.2.2.2.2.2.2.2.2.2.1,m.2.2.2.2.2.2.2.2.2.2.2.1,m.2.2.2.2.2.2.2.2.2.2.2.2.1,m.2.2.2.2.2.2.2.2.2.2.2.2.2.1,m.2.2.2.2.2.2.2.2.2.2.2.2.2.2.1,m.2.2.2.2.2.2.2.2.2.2.2.2.2.2.2.1,())).1;have z3:=(wx (m.2.2.2.2.2.2.2.2.2.2.1,m.2.2.2.2.2.2.2.2.2.2.2.1,m.2.2.2.2.2.2.2.2.2.2.2.2.1,m.2.2.2.2.2.2.2.2.2.2.2.2.2.1,m.2.2.2.2.2.2.2.2.2.2.2.2.2.2.1,m.2.2.2.2.2.2.2.2.2.2.2.2.2.2.2.1,())).2.2;have w1:eU m.2.2.2.2.2.2.2.2.2.2.1 m.2.2.2.2.2.2.2.2.2.2.2.1 m.2.2.2.2.2.2.2.2.2.2.2.2.1 m.2.2.2.2.2.2.2.2.2.2.2.2.2.1 m.2.2.2.2.2.2.2.2.2.2.2.2.2.2.1 m.2.2.2.2.2.2.2.2.2.2.2.2.2.2.2.1=some (JM (m.2.2.2.2.2.2.2.2.2.2.1,m.2.2.2.2.2.2.2.2.2.2.2.1,m.2.2.2.2.2.2.2.2.2.2.2.2.1,m.2.2.2.2.2.2.2.2.2.2.2.2.2.1,m.2.2.2.2.2.2.2.2.2.2.2.2.2.2.1,m.2.2.2.2.2.2.2.2.2.2.2.2.2.2.2.1,()),()):=(C2 (m.2.2.2.2.2.2.2.2.2.2.1,m.2.2.2.2.2.2.2.2.2.2.2.1,m.2.2.2.2.2.2.2.2.2.2.2.2.1,m.2.2.2.2.2.2.2.2.2.2.2.2.2.1,m.2.2.2.2.2.2.2.2.2.2.2.2.2.2.1,m.2.2.2.2.2.2.2.2.2.2.2.2.2.2.2.1,()) (by show m.2.2.2.2.2.2.2.2.2.2.2.2.2.2.2.1.length≤_;omega)).1;have w3:=(C2 (m.2.2.2.2.2.2.2.2.2.2.1,m.2.2.2.2.2.2.2.2.2.2.2.1,m.2.2.2.2.2.2.2.2.2.2.2.2.1,m.2.2.2.2.2.2.2.2.2.2.2.2.2.1,m.2.2.2.2.2.2.2.2.2.2.2.2.2.2.1,m.2.2.2.2.2.2.2.2.2.2.2.2.2.2.2.1,()) (by show m.2.2.2.2.2.2.2.2.2.2.2.2.2.2.2.1.length≤_;omega)).2.2;unfold fh at k1;simp only [r1,c1,i1,t1,a1,z1,w1,mE,Option.bind_some] at k1
 cases e1:yd m.2.1 m.2.2.1
 ·rw [e1] at k1;injection k1 with k1;injection k1 with k1 _;subst k1;exact ⟨fun h=>(by cases h),fun h=>by rw [r3.2 h.ring] at e1;cases e1⟩
 by_cases e2:(m.1,())∈m.2.2.1
 case neg=>
  rw [e1,aq e2] at k1;injection k1 with k1;injection k1 with k1 _;subst k1;exact ⟨fun h=>(by cases h),fun h=>absurd h.mem e2⟩
 cases e3:m6 m.2.2.2.1
 ·rw [e1,ak e2,e3] at k1;injection k1 with k1;injection k1 with k1 _;subst k1;exact ⟨fun h=>(by cases h),fun h=>by rw [i3.2 h.items] at e3;cases e3⟩
 cases b4
 ·rw [e1,ak e2,e3] at k1;injection k1 with k1;injection k1 with k1 _;subst k1;exact ⟨fun h=>(by cases h),fun h=>by have:=t2.2 ⟨h.texts.1,h.texts.2,h.YY,h.short⟩;cases this⟩
 rw [e1,ak e2,e3] at k1;simp only [Bool.not_true,cond_false] at k1
 cases e5:(decide ((0:Int)≤m.2.2.2.2.2.2.1)&&decide (m.2.2.2.2.2.2.1≤1000000000))
 ·rw [e5] at k1;injection k1 with k1;injection k1 with k1 _;subst k1;exact ⟨fun h=>(by cases h),fun h=>by rw [qV.2 h.round] at e5;cases e5⟩
 cases e6:(decide ((0:Int)≤m.2.2.2.2.2.2.2.1)&&decide (m.2.2.2.2.2.2.2.1≤60))
 ·rw [e5,e6] at k1;injection k1 with k1;injection k1 with k1 _;subst k1;exact ⟨fun h=>(by cases h),fun h=>by rw [qV.2 h.seen] at e6;cases e6⟩
 cases e8:(decide ((0:Int)≤m.2.2.2.2.2.2.2.2.1)&&decide (m.2.2.2.2.2.2.2.2.1≤((cY m.2.2.2.1:Nat):Int)))
 ·rw [e5,e6,e8] at k1;injection k1 with k1;injection k1 with k1 _;subst k1;exact ⟨fun h=>(by cases h),fun h=>by rw [qV.2 h.line] at e8;cases e8⟩
 cases e9:(decide ((0:Int)≤m.2.2.2.2.2.2.2.2.2.1)&&decide (m.2.2.2.2.2.2.2.2.2.1≤((cY m.2.2.2.1:Nat):Int)))
 ·rw [e5,e6,e8,e9] at k1;injection k1 with k1;injection k1 with k1 _;subst k1;exact ⟨fun h=>(by cases h),fun h=>by rw [qV.2 h.heard] at e9;cases e9⟩
 rw [e5,e6,e8,e9] at k1;obtain ⟨t3,t4,t5,t6⟩:=t2.1 rfl;have mk:(Blank (m.2.2.2.2.2.2.2.2.2.2.1,m.2.2.2.2.2.2.2.2.2.2.2.1,m.2.2.2.2.2.2.2.2.2.2.2.2.1,m.2.2.2.2.2.2.2.2.2.2.2.2.2.1,m.2.2.2.2.2.2.2.2.2.2.2.2.2.2.1,m.2.2.2.2.2.2.2.2.2.2.2.2.2.2.2.1,())∨JL (m.2.2.2.2.2.2.2.2.2.2.1,m.2.2.2.2.2.2.2.2.2.2.2.1,m.2.2.2.2.2.2.2.2.2.2.2.2.1,m.2.2.2.2.2.2.2.2.2.2.2.2.2.1,m.2.2.2.2.2.2.2.2.2.2.2.2.2.2.1,m.2.2.2.2.2.2.2.2.2.2.2.2.2.2.2.1,()))→qW m:=fun hl=>⟨r3.1 e1,e2,i3.1 e3,⟨t3,t4⟩,t5,t6,lG e5,lG e6,lG e8,lG e9,hl⟩
 cases e10:wv (m.2.2.2.2.2.2.2.2.2.2.1,m.2.2.2.2.2.2.2.2.2.2.2.1,m.2.2.2.2.2.2.2.2.2.2.2.2.1,m.2.2.2.2.2.2.2.2.2.2.2.2.2.1,m.2.2.2.2.2.2.2.2.2.2.2.2.2.2.1,m.2.2.2.2.2.2.2.2.2.2.2.2.2.2.2.1,())
 ·rw [e10] at k1
  cases e11:JM (m.2.2.2.2.2.2.2.2.2.2.1,m.2.2.2.2.2.2.2.2.2.2.2.1,m.2.2.2.2.2.2.2.2.2.2.2.2.1,m.2.2.2.2.2.2.2.2.2.2.2.2.2.1,m.2.2.2.2.2.2.2.2.2.2.2.2.2.2.1,m.2.2.2.2.2.2.2.2.2.2.2.2.2.2.2.1,())
  ·rw [e11] at k1;injection k1 with k1;injection k1 with k1 _;subst k1;refine ⟨fun h=>(by cases h),fun h => ?_⟩;rcases h.last with q | q
   ·rw [z3.2 q] at e10;cases e10
   ·rw [w3.2 q] at e11;cases e11
  ·rw [e11] at k1;injection k1 with k1;injection k1 with k1 _;subst k1;exact ⟨fun _=>mk (.inr (w3.1 e11)),fun _=>rfl⟩
 ·rw [e10] at k1;injection k1 with k1;injection k1 with k1 _;subst k1;exact ⟨fun _=>mk (.inl (z3.1 e10)),fun _=>rfl⟩
theorem qW.small {m:iG} (h:qW m):mg m≤5000:=by
 have h1:=dm _ h.items;have h2:=Gg _ h.short;have h3:=h.texts;have h4:=h.ring.2.1;have h5:m.2.2.2.2.2.2.2.2.2.2.2.2.2.2.2.1.length≤20:=by
  rcases h.last with q | q
  ·rw [show m.2.2.2.2.2.2.2.2.2.2.2.2.2.2.2.1=[] from q.2.2.2.2.2];exact Nat.zero_le _
  ·exact q.2.2.2.2.2.1
 unfold mg;rw [nb jR (fun _=>rfl),nb jR (fun _=>rfl),nb jR (fun _=>rfl)];omega
end Go.TM
set_option linter.unusedSimpArgs false
set_option linter.unusedVariables false
namespace Go.TM
open Go
theorem IQ (b x:Bool):(bif b then some (x,()) else some (false,()))=some ((b&&x),()):=by cases b<;>rfl
theorem OD (b x:Bool):(bif !b then some (false,()) else some (x,()))=some ((b&&x),()):=by cases b<;>rfl
theorem u9 (c:Int) (xs:List (Int×Unit)):fJ c xs=some ((decide (c=0)&&decide (((List.length xs:Nat):Int)=0)),())∧jB c xs=some ((decide (c=0)&&decide (((List.length xs:Nat):Int)=0)),()):=by
 unfold fJ jB;simp only [IQ];exact ⟨trivial,trivial⟩
theorem Gh (eJ:Int) (eB:Int) (dP:List (Int×Unit)) (dL:aU) (dv:List (Int×Unit)) (dQ:List (ByteArray×Unit)) (eS fc fe ff cG cH cI cJ cK:Int) (cz:List (Int×Unit)):∃b,gn eJ eB dP dL dv dQ eS fc fe ff cG cH cI cJ cK cz=some (b,())∧ie eJ eB dP dL dv dQ eS fc fe ff cG cH cI cJ cK cz=some (b,())∧(b=true→eB=0):=by
 obtain ⟨b6,z1,z2⟩:=zJ cG cH cI cJ cK cz;obtain ⟨n1,n2⟩:=u9 eB dP;unfold gn ie;simp only [z1,z2,n1,n2,Option.bind_some,IQ,OD];refine ⟨_,rfl,?_,fun h => ?_⟩
 ·congr 2
  ac_rfl
 ·simp only [Bool.and_eq_true,decide_eq_true_eq] at h;exact h.2.1.1
theorem JN (bG:Int) (bW:Bool) (bU:Int) (bL:Int) (bN:List (Int×Unit)) (aD:aU) (bR:List (Int×Unit)) (bS:List (ByteArray×Unit)) (bX:Int) (ca:Int) (bj:Int) (bd:Int) (bk:Int) (bl:Int) (bm:Int) (bn:Int) (bo:Int) (bf:List (Int×Unit)) (aX:Int) (aV:Int) (aQ:Int) (aP:List (Int×Unit)) (aW:List (Int×Int×Int×(List (Int×Int×Int×ByteArray×Unit))×Unit)) (aZ:List (Int×Int×(List (Int×Unit))×Int×Int×Int×ByteArray×(List (Int×Unit))×Unit)) (h0:(List.length bN+wl jR bN)+(List.length aD+wl dF aD)+(List.length bR+wl jR bR)+(List.length bS+wl JK bS)+(List.length bf+wl jR bf)+(List.length aP+wl jR aP)+(List.length aW+wl ed aW)+(List.length aZ+wl bu aZ)≤1048576):∃o0,fo bG bW bU bL bN aD bR bS bX ca bj bd bk bl bm bn bo bf aX aV aQ aP aW aZ=some (o0,())∧dW bG bW bU bL bN aD bR bS bX ca bj bd bk bl bm bn bo bf aX aV aQ aP aW aZ=some (o0,()):=by
 have hm0:(List.length bN+wl jR bN)+(List.length aD+wl dF aD)+(List.length bR+wl jR bR)+(List.length bS+wl JK bS)+(List.length bf+wl jR bf)≤1048576:=by omega
 obtain ⟨nm,n1,n2,n3⟩:=Gh bU bL bN aD bR bS bX ca bj bd bk bl bm bn bo bf;obtain ⟨b,k1,k2,_⟩:=Yb bU bL bN aD bR bS bX ca bj bd bk bl bm bn bo bf hm0;obtain ⟨r1,r2⟩:=u9 aQ aP;obtain ⟨b8,q1,q2,_⟩:=BO aQ aP (by omega);obtain ⟨b9,c1,c2⟩:=pq bG aP (by omega);obtain ⟨e,f,g1,g2,g3⟩:∃e f,aJ eP (bG,bW,bU,bL,bN,aD,bR,bS,bX,ca,bj,bd,bk,bl,bm,bn,bo,bf,aX,aV,aQ,aP,aW,aZ,(0:Int),())=some e∧aJ fK (bG,bW,bU,bL,bN,aD,bR,bS,bX,ca,bj,bd,bk,bl,bm,bn,bo,bf,aX,aV,aQ,aP,aW,aZ,aW,((List.length aW:Nat):Int),(0:Int),())=some f∧
   ((e=.inl ()∧f=.inl (bG,bW,bU,bL,bN,aD,bR,bS,bX,ca,bj,bd,bk,bl,bm,bn,bo,bf,aX,aV,aQ,aP,aW,aZ,()))∨(e=.inr (false,())∧f=.inr (bG,bW,bU,bL,bN,aD,bR,bS,bX,ca,bj,bd,bk,bl,bm,bn,bo,bf,aX,aV,aQ,aP,aW,aZ,false,()))):=by
  refine qn aW.length (fun k x y=>x=(bG,bW,bU,bL,bN,aD,bR,bS,bX,ca,bj,bd,bk,bl,bm,bn,bo,bf,aX,aV,aQ,aP,aW,aZ,((k:Nat):Int),())∧y=(bG,bW,bU,bL,bN,aD,bR,bS,bX,ca,bj,bd,bk,bl,bm,bn,bo,bf,aX,aV,aQ,aP,aW,aZ,aW,((List.length aW:Nat):Int),((k:Nat):Int),())) _ ?_ ⟨rfl,rfl⟩
  rintro k x y hk ⟨rfl,rfl⟩
  by_cases dO:k<aW.length
  ·have hw:=HQ ed aW aW[k] (List.getElem_mem dO);have hl:(aW[k].2.2.2.1).length≤1048576:=by
    have:ed aW[k]=List.length aW[k].2.2.2.1+wl dF aW[k].2.2.2.1:=rfl;omega
   obtain ⟨x,v1,v2⟩:=Ge aW[k].1 aW[k].2.1 aW[k].2.2.1 aW[k].2.2.2.1 hl;simp only [eP,az,lq,aw,fK,az,kV,aw,aF dO,ax,cond_true,aG,List.getElem?_eq_getElem dO,Option.bind_some,v1,v2,aM (show k<4611686018427387904 by omega)]
   cases x
   ·exact .inl ⟨_,_,rfl,rfl,.inr ⟨rfl,rfl⟩⟩
   ·by_cases hn:aW[k].2.1=aQ
    ·rw [ak hn];exact .inr ⟨dO,_,_,rfl,rfl,rfl,rfl⟩
    ·rw [aq hn];exact .inl ⟨_,_,rfl,rfl,.inr ⟨rfl,rfl⟩⟩
  ·have:k=aW.length:=by omega
   subst this;exact .inl ⟨.inl (),.inl (bG,bW,bU,bL,bN,aD,bR,bS,bX,ca,bj,bd,bk,bl,bm,bn,bo,bf,aX,aV,aQ,aP,aW,aZ,()),by simp only [eP,az,lq,aw,aN,cond_false],by simp only [fK,az,kV,aw,aN,cond_false],.inl ⟨rfl,rfl⟩⟩
 unfold fo dW fH;delta bA;simp only [mE,wm,pZ,n1,n2,k1,k2,r1,r2,q1,q2,c1,c2,g1,g2,Option.bind_some]
 cases (decide (1≤bG)&&decide (bG≤5))
 ·exact ⟨_,rfl,rfl⟩
 cases hB:(decide (0≤aX)&&decide (aX≤9))
 ·exact ⟨_,rfl,rfl⟩
 have hB:=lG hB;simp only [Bool.not_true,cond_false]
 cases bW
 ·cases nm
  ·cases b
   ·by_cases o0:bU=bG
    ·rw [ak o0];exact ⟨_,rfl,rfl⟩
    ·rw [aq o0];exact ⟨_,rfl,rfl⟩
   by_cases o0:bU=bG
   case neg=>rw [aq o0];exact ⟨_,rfl,rfl⟩
   rw [ak o0]
   by_cases o1:aV=bL
   case neg=>rw [aq o1];exact ⟨_,rfl,rfl⟩
   rw [ak o1]
   by_cases o2:aX<aV
   ·rw [ak o2,aq (show ¬aV≤aX by omega)];exact ⟨_,rfl,rfl⟩
   rw [aq o2,ak (show aV≤aX by omega)]
   cases (decide (aQ=0)&&decide (((List.length aP:Nat):Int)=0))
   ·cases b8
    ·exact ⟨_,rfl,rfl⟩
    cases b9
    ·exact ⟨_,rfl,rfl⟩
    cases (decide (IntKind.i64.wrap (aV+(1:Int))≤aQ)&&decide (aQ≤aX))
    ·exact ⟨_,rfl,rfl⟩
    rcases g3 with ⟨rfl,rfl⟩ | ⟨rfl,rfl⟩
    ·exact ⟨_,rfl,rfl⟩
    ·exact ⟨_,rfl,rfl⟩
   ·exact ⟨_,rfl,rfl⟩
  ·have h3:=n3 rfl
   by_cases o1:aV=bL
   case neg=>rw [aq o1];exact ⟨_,rfl,rfl⟩
   rw [ak o1]
   by_cases o2:aX<aV
   ·rw [ak o2,aq (show ¬aV≤aX by omega)];exact ⟨_,rfl,rfl⟩
   rw [aq o2,ak (show aV≤aX by omega)]
   cases (decide (aQ=0)&&decide (((List.length aP:Nat):Int)=0))
   ·cases b8
    ·exact ⟨_,rfl,rfl⟩
    cases b9
    ·exact ⟨_,rfl,rfl⟩
    cases (decide (IntKind.i64.wrap (aV+(1:Int))≤aQ)&&decide (aQ≤aX))
    ·exact ⟨_,rfl,rfl⟩
    rcases g3 with ⟨rfl,rfl⟩ | ⟨rfl,rfl⟩
    ·exact ⟨_,rfl,rfl⟩
    ·exact ⟨_,rfl,rfl⟩
   ·exact ⟨_,rfl,rfl⟩
 ·cases nm
  ·exact ⟨_,rfl,rfl⟩
  have h3:=n3 rfl
  by_cases o3:aV=0
  case neg=>rw [aq o3];exact ⟨_,rfl,rfl⟩
  rw [ak o3,ak (show aV=bL by omega),ak (show aV≤aX by omega)]
  cases (decide (aQ=0)&&decide (((List.length aP:Nat):Int)=0))
  ·exact ⟨_,rfl,rfl⟩
  by_cases o4:((List.length aW:Nat):Int)=0
  ·rw [ak o4,aq (show ¬(0:Int)<((List.length aW:Nat):Int) by omega)];exact ⟨_,rfl,rfl⟩
  ·rw [aq o4,ak (show (0:Int)<((List.length aW:Nat):Int) by omega)];exact ⟨_,rfl,rfl⟩
end Go.TM
set_option linter.unusedSimpArgs false
set_option linter.unusedVariables false
namespace Go.TM
open Go
abbrev aE (d:bY):iG:=(d.2.2.1,d.2.2.2.1,d.2.2.2.2.1,d.2.2.2.2.2.1,d.2.2.2.2.2.2.1,d.2.2.2.2.2.2.2.1,d.2.2.2.2.2.2.2.2.1,d.2.2.2.2.2.2.2.2.2.1,d.2.2.2.2.2.2.2.2.2.2.1,d.2.2.2.2.2.2.2.2.2.2.2.1,d.2.2.2.2.2.2.2.2.2.2.2.2.1,d.2.2.2.2.2.2.2.2.2.2.2.2.2.1,d.2.2.2.2.2.2.2.2.2.2.2.2.2.2.1,d.2.2.2.2.2.2.2.2.2.2.2.2.2.2.2.1,d.2.2.2.2.2.2.2.2.2.2.2.2.2.2.2.2.1,d.2.2.2.2.2.2.2.2.2.2.2.2.2.2.2.2.2.1,())
def Lt (m:iG):Prop:=m.1=0∧m.2.1=0∧m.2.2.1=[]∧m.2.2.2.1=[]∧m.2.2.2.2.1=[]∧m.2.2.2.2.2.1=[]∧m.2.2.2.2.2.2.1=0∧m.2.2.2.2.2.2.2.1=0∧m.2.2.2.2.2.2.2.2.1=0∧m.2.2.2.2.2.2.2.2.2.1=0∧Blank (m.2.2.2.2.2.2.2.2.2.2.1,m.2.2.2.2.2.2.2.2.2.2.2.1,m.2.2.2.2.2.2.2.2.2.2.2.2.1,m.2.2.2.2.2.2.2.2.2.2.2.2.2.1,m.2.2.2.2.2.2.2.2.2.2.2.2.2.2.1,m.2.2.2.2.2.2.2.2.2.2.2.2.2.2.2.1,())
noncomputable def Bp (m:iG):Bool:=match gn m.1 m.2.1 m.2.2.1 m.2.2.2.1 m.2.2.2.2.1 m.2.2.2.2.2.1 m.2.2.2.2.2.2.1 m.2.2.2.2.2.2.2.1 m.2.2.2.2.2.2.2.2.1 m.2.2.2.2.2.2.2.2.2.1 m.2.2.2.2.2.2.2.2.2.2.1 m.2.2.2.2.2.2.2.2.2.2.2.1 m.2.2.2.2.2.2.2.2.2.2.2.2.1 m.2.2.2.2.2.2.2.2.2.2.2.2.2.1 m.2.2.2.2.2.2.2.2.2.2.2.2.2.2.1 m.2.2.2.2.2.2.2.2.2.2.2.2.2.2.2.1 with | some x=>x.1 | none=>false
theorem aaf {α:Type} (xs:List α):((List.length xs:Nat):Int)=0↔xs=[]:=by rw [←List.length_eq_zero_iff];omega
theorem OE (m:iG):gn m.1 m.2.1 m.2.2.1 m.2.2.2.1 m.2.2.2.2.1 m.2.2.2.2.2.1 m.2.2.2.2.2.2.1 m.2.2.2.2.2.2.2.1 m.2.2.2.2.2.2.2.2.1 m.2.2.2.2.2.2.2.2.2.1 m.2.2.2.2.2.2.2.2.2.2.1 m.2.2.2.2.2.2.2.2.2.2.2.1 m.2.2.2.2.2.2.2.2.2.2.2.2.1 m.2.2.2.2.2.2.2.2.2.2.2.2.2.1 m.2.2.2.2.2.2.2.2.2.2.2.2.2.2.1 m.2.2.2.2.2.2.2.2.2.2.2.2.2.2.2.1=some (Bp m,())∧ie m.1 m.2.1 m.2.2.1 m.2.2.2.1 m.2.2.2.2.1 m.2.2.2.2.2.1 m.2.2.2.2.2.2.1 m.2.2.2.2.2.2.2.1 m.2.2.2.2.2.2.2.2.1 m.2.2.2.2.2.2.2.2.2.1 m.2.2.2.2.2.2.2.2.2.2.1 m.2.2.2.2.2.2.2.2.2.2.2.1 m.2.2.2.2.2.2.2.2.2.2.2.2.1 m.2.2.2.2.2.2.2.2.2.2.2.2.2.1 m.2.2.2.2.2.2.2.2.2.2.2.2.2.2.1 m.2.2.2.2.2.2.2.2.2.2.2.2.2.2.2.1=some (Bp m,())∧(Bp m=true↔Lt m):=by
 obtain ⟨b,k1,k2,_⟩:=Gh m.1 m.2.1 m.2.2.1 m.2.2.2.1 m.2.2.2.2.1 m.2.2.2.2.2.1 m.2.2.2.2.2.2.1 m.2.2.2.2.2.2.2.1 m.2.2.2.2.2.2.2.2.1 m.2.2.2.2.2.2.2.2.2.1 m.2.2.2.2.2.2.2.2.2.2.1 m.2.2.2.2.2.2.2.2.2.2.2.1 m.2.2.2.2.2.2.2.2.2.2.2.2.1 m.2.2.2.2.2.2.2.2.2.2.2.2.2.1 m.2.2.2.2.2.2.2.2.2.2.2.2.2.2.1 m.2.2.2.2.2.2.2.2.2.2.2.2.2.2.2.1;have hb:Bp m=b:=by unfold Bp;rw [k1]
 rw [hb];refine ⟨k1,k2,?_⟩;have z1:dM m.2.2.2.2.2.2.2.2.2.2.1 m.2.2.2.2.2.2.2.2.2.2.2.1 m.2.2.2.2.2.2.2.2.2.2.2.2.1 m.2.2.2.2.2.2.2.2.2.2.2.2.2.1 m.2.2.2.2.2.2.2.2.2.2.2.2.2.2.1 m.2.2.2.2.2.2.2.2.2.2.2.2.2.2.2.1=some (wv (m.2.2.2.2.2.2.2.2.2.2.1,m.2.2.2.2.2.2.2.2.2.2.2.1,m.2.2.2.2.2.2.2.2.2.2.2.2.1,m.2.2.2.2.2.2.2.2.2.2.2.2.2.1,m.2.2.2.2.2.2.2.2.2.2.2.2.2.2.1,m.2.2.2.2.2.2.2.2.2.2.2.2.2.2.2.1,()),()):=(wx (m.2.2.2.2.2.2.2.2.2.2.1,m.2.2.2.2.2.2.2.2.2.2.2.1,m.2.2.2.2.2.2.2.2.2.2.2.2.1,m.2.2.2.2.2.2.2.2.2.2.2.2.2.1,m.2.2.2.2.2.2.2.2.2.2.2.2.2.2.1,m.2.2.2.2.2.2.2.2.2.2.2.2.2.2.2.1,())).2.1;have z2:fm m.2.2.2.2.2.2.2.2.2.2.1 m.2.2.2.2.2.2.2.2.2.2.2.1 m.2.2.2.2.2.2.2.2.2.2.2.2.1 m.2.2.2.2.2.2.2.2.2.2.2.2.2.1 m.2.2.2.2.2.2.2.2.2.2.2.2.2.2.1 m.2.2.2.2.2.2.2.2.2.2.2.2.2.2.2.1=some (wv (m.2.2.2.2.2.2.2.2.2.2.1,m.2.2.2.2.2.2.2.2.2.2.2.1,m.2.2.2.2.2.2.2.2.2.2.2.2.1,m.2.2.2.2.2.2.2.2.2.2.2.2.2.1,m.2.2.2.2.2.2.2.2.2.2.2.2.2.2.1,m.2.2.2.2.2.2.2.2.2.2.2.2.2.2.2.1,()),()):=(wx (m.2.2.2.2.2.2.2.2.2.2.1,m.2.2.2.2.2.2.2.2.2.2.2.1,m.2.2.2.2.2.2.2.2.2.2.2.2.1,m.2.2.2.2.2.2.2.2.2.2.2.2.2.1,m.2.2.2.2.2.2.2.2.2.2.2.2.2.2.1,m.2.2.2.2.2.2.2.2.2.2.2.2.2.2.2.1,())).1;have z3:=(wx (m.2.2.2.2.2.2.2.2.2.2.1,m.2.2.2.2.2.2.2.2.2.2.2.1,m.2.2.2.2.2.2.2.2.2.2.2.2.1,m.2.2.2.2.2.2.2.2.2.2.2.2.2.1,m.2.2.2.2.2.2.2.2.2.2.2.2.2.2.1,m.2.2.2.2.2.2.2.2.2.2.2.2.2.2.2.1,())).2.2;obtain ⟨n1,n2⟩:=u9 m.2.1 m.2.2.1;unfold gn at k1;simp only [z2,n1,Option.bind_some,IQ,OD] at k1;injection k1 with k1;injection k1 with k1 _;rw [←k1];unfold Lt;simp only [Bool.and_eq_true,decide_eq_true_eq,aaf,z3]
 constructor
 ·rintro ⟨a1,⟨a2,a3⟩,a4,a5,a6,a7,a8,a9,a10,a11⟩
  exact ⟨a1,a2,a3,a4,a5,a6,a7,a8,a9,a10,a11⟩
 ·rintro ⟨a1,a2,a3,a4,a5,a6,a7,a8,a9,a10,a11⟩
  exact ⟨a1,⟨a2,a3⟩,a4,a5,a6,a7,a8,a9,a10,a11⟩
structure ye (d:bY):Prop where
 id:1≤d.1∧d.1≤5
 xD:0≤d.2.2.2.2.2.2.2.2.2.2.2.2.2.2.2.2.2.2.1∧d.2.2.2.2.2.2.2.2.2.2.2.2.2.2.2.2.2.2.1≤9
 dead:d.2.1=true→Lt (aE d)∧d.2.2.2.2.2.2.2.2.2.2.2.2.2.2.2.2.2.2.2.1=0∧d.2.2.2.2.2.2.2.2.2.2.2.2.2.2.2.2.2.2.2.2.1=0∧d.2.2.2.2.2.2.2.2.2.2.2.2.2.2.2.2.2.2.2.2.2.1=[]∧d.2.2.2.2.2.2.2.2.2.2.2.2.2.2.2.2.2.2.2.2.2.2.1=[]
 tS:Lt (aE d)∨(qW (aE d)∧d.2.2.1=d.1)
 old:d.2.2.2.2.2.2.2.2.2.2.2.2.2.2.2.2.2.2.2.1=d.2.2.2.1∧d.2.2.2.2.2.2.2.2.2.2.2.2.2.2.2.2.2.2.2.1≤d.2.2.2.2.2.2.2.2.2.2.2.2.2.2.2.2.2.2.1
 nS:(d.2.2.2.2.2.2.2.2.2.2.2.2.2.2.2.2.2.2.2.2.1=0∧d.2.2.2.2.2.2.2.2.2.2.2.2.2.2.2.2.2.2.2.2.2.1=[]∧d.2.2.2.2.2.2.2.2.2.2.2.2.2.2.2.2.2.2.2.2.2.2.1=[])∨(lU d.2.2.2.2.2.2.2.2.2.2.2.2.2.2.2.2.2.2.2.2.1 d.2.2.2.2.2.2.2.2.2.2.2.2.2.2.2.2.2.2.2.2.2.1∧(d.1,())∈d.2.2.2.2.2.2.2.2.2.2.2.2.2.2.2.2.2.2.2.2.2.1∧(d.2.2.2.2.2.2.2.2.2.2.2.2.2.2.2.2.2.2.2.1+1≤d.2.2.2.2.2.2.2.2.2.2.2.2.2.2.2.2.2.2.2.2.1∧d.2.2.2.2.2.2.2.2.2.2.2.2.2.2.2.2.2.2.2.2.1≤d.2.2.2.2.2.2.2.2.2.2.2.2.2.2.2.2.2.2.1)∧∀b∈d.2.2.2.2.2.2.2.2.2.2.2.2.2.2.2.2.2.2.2.2.2.2.1,C1 b∧b.2.1=d.2.2.2.2.2.2.2.2.2.2.2.2.2.2.2.2.2.2.2.2.1)
def ow (d:bY):Nat:=(List.length d.2.2.2.2.1+wl jR d.2.2.2.2.1)+(List.length d.2.2.2.2.2.1+wl dF d.2.2.2.2.2.1)+(List.length d.2.2.2.2.2.2.1+wl jR d.2.2.2.2.2.2.1)+(List.length d.2.2.2.2.2.2.2.1+wl JK d.2.2.2.2.2.2.2.1)+(List.length d.2.2.2.2.2.2.2.2.2.2.2.2.2.2.2.2.2.1+wl jR d.2.2.2.2.2.2.2.2.2.2.2.2.2.2.2.2.2.1)+(List.length d.2.2.2.2.2.2.2.2.2.2.2.2.2.2.2.2.2.2.2.2.2.1+wl jR d.2.2.2.2.2.2.2.2.2.2.2.2.2.2.2.2.2.2.2.2.2.1)+(List.length d.2.2.2.2.2.2.2.2.2.2.2.2.2.2.2.2.2.2.2.2.2.2.1+wl ed d.2.2.2.2.2.2.2.2.2.2.2.2.2.2.2.2.2.2.2.2.2.2.1)+(List.length d.2.2.2.2.2.2.2.2.2.2.2.2.2.2.2.2.2.2.2.2.2.2.2.1+wl bu d.2.2.2.2.2.2.2.2.2.2.2.2.2.2.2.2.2.2.2.2.2.2.2.1)
noncomputable def jU (d:bY):Bool:=match fo d.1 d.2.1 d.2.2.1 d.2.2.2.1 d.2.2.2.2.1 d.2.2.2.2.2.1 d.2.2.2.2.2.2.1 d.2.2.2.2.2.2.2.1 d.2.2.2.2.2.2.2.2.1 d.2.2.2.2.2.2.2.2.2.1 d.2.2.2.2.2.2.2.2.2.2.1 d.2.2.2.2.2.2.2.2.2.2.2.1 d.2.2.2.2.2.2.2.2.2.2.2.2.1 d.2.2.2.2.2.2.2.2.2.2.2.2.2.1 d.2.2.2.2.2.2.2.2.2.2.2.2.2.2.1 d.2.2.2.2.2.2.2.2.2.2.2.2.2.2.2.1 d.2.2.2.2.2.2.2.2.2.2.2.2.2.2.2.2.1 d.2.2.2.2.2.2.2.2.2.2.2.2.2.2.2.2.2.1 d.2.2.2.2.2.2.2.2.2.2.2.2.2.2.2.2.2.2.1 d.2.2.2.2.2.2.2.2.2.2.2.2.2.2.2.2.2.2.2.1 d.2.2.2.2.2.2.2.2.2.2.2.2.2.2.2.2.2.2.2.2.1 d.2.2.2.2.2.2.2.2.2.2.2.2.2.2.2.2.2.2.2.2.2.1 d.2.2.2.2.2.2.2.2.2.2.2.2.2.2.2.2.2.2.2.2.2.2.1 d.2.2.2.2.2.2.2.2.2.2.2.2.2.2.2.2.2.2.2.2.2.2.2.1 with | some x=>x.1 | none=>false
theorem ye.asM {d:bY} (h:ye d):0≤d.2.2.2.2.2.2.2.2.2.2.2.2.2.2.2.2.2.2.2.1:=by
 rcases h.tS with q | ⟨q,_⟩
 ·have h1:d.2.2.2.1=0:=q.2.1;have h2:=h.old.1;omega
 ·have h1:1≤d.2.2.2.1:=q.ring.1.1;have h2:=h.old.1;omega
theorem Yd (d:bY) (h:ow d≤1048576):∃e,aJ eP (d.1,d.2.1,d.2.2.1,d.2.2.2.1,d.2.2.2.2.1,d.2.2.2.2.2.1,d.2.2.2.2.2.2.1,d.2.2.2.2.2.2.2.1,d.2.2.2.2.2.2.2.2.1,d.2.2.2.2.2.2.2.2.2.1,d.2.2.2.2.2.2.2.2.2.2.1,d.2.2.2.2.2.2.2.2.2.2.2.1,d.2.2.2.2.2.2.2.2.2.2.2.2.1,d.2.2.2.2.2.2.2.2.2.2.2.2.2.1,d.2.2.2.2.2.2.2.2.2.2.2.2.2.2.1,d.2.2.2.2.2.2.2.2.2.2.2.2.2.2.2.1,d.2.2.2.2.2.2.2.2.2.2.2.2.2.2.2.2.1,d.2.2.2.2.2.2.2.2.2.2.2.2.2.2.2.2.2.1,d.2.2.2.2.2.2.2.2.2.2.2.2.2.2.2.2.2.2.1,d.2.2.2.2.2.2.2.2.2.2.2.2.2.2.2.2.2.2.2.1,d.2.2.2.2.2.2.2.2.2.2.2.2.2.2.2.2.2.2.2.2.1,d.2.2.2.2.2.2.2.2.2.2.2.2.2.2.2.2.2.2.2.2.2.1,d.2.2.2.2.2.2.2.2.2.2.2.2.2.2.2.2.2.2.2.2.2.2.1,d.2.2.2.2.2.2.2.2.2.2.2.2.2.2.2.2.2.2.2.2.2.2.2.1,(0:Int),())=some e∧((e=.inl ()∧∀b∈d.2.2.2.2.2.2.2.2.2.2.2.2.2.2.2.2.2.2.2.2.2.2.1,C1 b∧b.2.1=d.2.2.2.2.2.2.2.2.2.2.2.2.2.2.2.2.2.2.2.2.1)∨(e=.inr (false,())∧¬∀b∈d.2.2.2.2.2.2.2.2.2.2.2.2.2.2.2.2.2.2.2.2.2.2.1,C1 b∧b.2.1=d.2.2.2.2.2.2.2.2.2.2.2.2.2.2.2.2.2.2.2.2.1)):=by
 unfold ow at h;obtain ⟨e,he,hq⟩:=dt (round:=eP) (x:=(d.1,d.2.1,d.2.2.1,d.2.2.2.1,d.2.2.2.2.1,d.2.2.2.2.2.1,d.2.2.2.2.2.2.1,d.2.2.2.2.2.2.2.1,d.2.2.2.2.2.2.2.2.1,d.2.2.2.2.2.2.2.2.2.1,d.2.2.2.2.2.2.2.2.2.2.1,d.2.2.2.2.2.2.2.2.2.2.2.1,d.2.2.2.2.2.2.2.2.2.2.2.2.1,d.2.2.2.2.2.2.2.2.2.2.2.2.2.1,d.2.2.2.2.2.2.2.2.2.2.2.2.2.2.1,d.2.2.2.2.2.2.2.2.2.2.2.2.2.2.2.1,d.2.2.2.2.2.2.2.2.2.2.2.2.2.2.2.2.1,d.2.2.2.2.2.2.2.2.2.2.2.2.2.2.2.2.2.1,d.2.2.2.2.2.2.2.2.2.2.2.2.2.2.2.2.2.2.1,d.2.2.2.2.2.2.2.2.2.2.2.2.2.2.2.2.2.2.2.1,d.2.2.2.2.2.2.2.2.2.2.2.2.2.2.2.2.2.2.2.2.1,d.2.2.2.2.2.2.2.2.2.2.2.2.2.2.2.2.2.2.2.2.2.1,d.2.2.2.2.2.2.2.2.2.2.2.2.2.2.2.2.2.2.2.2.2.2.1,d.2.2.2.2.2.2.2.2.2.2.2.2.2.2.2.2.2.2.2.2.2.2.2.1,((0:Nat):Int),())) (d.2.2.2.2.2.2.2.2.2.2.2.2.2.2.2.2.2.2.2.2.2.2.1).length (fun k x=>x=(d.1,d.2.1,d.2.2.1,d.2.2.2.1,d.2.2.2.2.1,d.2.2.2.2.2.1,d.2.2.2.2.2.2.1,d.2.2.2.2.2.2.2.1,d.2.2.2.2.2.2.2.2.1,d.2.2.2.2.2.2.2.2.2.1,d.2.2.2.2.2.2.2.2.2.2.1,d.2.2.2.2.2.2.2.2.2.2.2.1,d.2.2.2.2.2.2.2.2.2.2.2.2.1,d.2.2.2.2.2.2.2.2.2.2.2.2.2.1,d.2.2.2.2.2.2.2.2.2.2.2.2.2.2.1,d.2.2.2.2.2.2.2.2.2.2.2.2.2.2.2.1,d.2.2.2.2.2.2.2.2.2.2.2.2.2.2.2.2.1,d.2.2.2.2.2.2.2.2.2.2.2.2.2.2.2.2.2.1,d.2.2.2.2.2.2.2.2.2.2.2.2.2.2.2.2.2.2.1,d.2.2.2.2.2.2.2.2.2.2.2.2.2.2.2.2.2.2.2.1,d.2.2.2.2.2.2.2.2.2.2.2.2.2.2.2.2.2.2.2.2.1,d.2.2.2.2.2.2.2.2.2.2.2.2.2.2.2.2.2.2.2.2.2.1,d.2.2.2.2.2.2.2.2.2.2.2.2.2.2.2.2.2.2.2.2.2.2.1,d.2.2.2.2.2.2.2.2.2.2.2.2.2.2.2.2.2.2.2.2.2.2.2.1,((k:Nat):Int),())∧∀j (hj:j<(d.2.2.2.2.2.2.2.2.2.2.2.2.2.2.2.2.2.2.2.2.2.2.1).length),j<k→C1 (d.2.2.2.2.2.2.2.2.2.2.2.2.2.2.2.2.2.2.2.2.2.2.1)[j]∧(d.2.2.2.2.2.2.2.2.2.2.2.2.2.2.2.2.2.2.2.2.2.2.1)[j].2.1=d.2.2.2.2.2.2.2.2.2.2.2.2.2.2.2.2.2.2.2.2.1)
  (fun e=>(e=.inl ()∧∀b∈d.2.2.2.2.2.2.2.2.2.2.2.2.2.2.2.2.2.2.2.2.2.2.1,C1 b∧b.2.1=d.2.2.2.2.2.2.2.2.2.2.2.2.2.2.2.2.2.2.2.2.1)∨(e=.inr (false,())∧¬∀b∈d.2.2.2.2.2.2.2.2.2.2.2.2.2.2.2.2.2.2.2.2.2.2.1,C1 b∧b.2.1=d.2.2.2.2.2.2.2.2.2.2.2.2.2.2.2.2.2.2.2.2.1)) (by
   rintro x ⟨rfl,g⟩
   refine ⟨.inl (),by simp only [eP,az,lq,aw,aN,cond_false],.inl ⟨rfl,fun b hb => ?_⟩⟩;obtain ⟨k,hk,rfl⟩:=List.mem_iff_getElem.1 hb;exact g k hk hk) (by
   rintro k x hk ⟨rfl,g⟩
   have hl:=Eh d.2.2.2.2.2.2.2.2.2.2.2.2.2.2.2.2.2.2.2.2.2.2.1 hk (by omega);have hb:=(se (d.2.2.2.2.2.2.2.2.2.2.2.2.2.2.2.2.2.2.2.2.2.2.1)[k] hl).1;have hi:=ME (d.2.2.2.2.2.2.2.2.2.2.2.2.2.2.2.2.2.2.2.2.2.2.1)[k] hl;simp only [eP,az,lq,aw,aF hk,ax,cond_true,aG,List.getElem?_eq_getElem hk,Option.bind_some,hb,aM (show k<4611686018427387904 by omega)]
   cases hv:p7 (d.2.2.2.2.2.2.2.2.2.2.2.2.2.2.2.2.2.2.2.2.2.2.1)[k]
   ·exact .inl ⟨.inr (false,()),rfl,.inr ⟨rfl,fun hn=>by rw [hi.2 (hn _ (List.getElem_mem hk)).1] at hv;cases hv⟩⟩
   ·by_cases hn:(d.2.2.2.2.2.2.2.2.2.2.2.2.2.2.2.2.2.2.2.2.2.2.1)[k].2.1=d.2.2.2.2.2.2.2.2.2.2.2.2.2.2.2.2.2.2.2.2.1
    ·rw [ak hn];refine .inr ⟨_,rfl,rfl,fun j hj NL => ?_⟩
     by_cases e:j<k
     ·exact g j hj e
     ·have:j=k:=by omega
      subst this;exact ⟨hi.1 hv,hn⟩
    ·rw [aq hn];exact .inl ⟨.inr (false,()),rfl,.inr ⟨rfl,fun hq=>hn (hq _ (List.getElem_mem hk)).2⟩⟩) ⟨rfl,fun j _ h=>by omega⟩
 exact ⟨e,he,hq⟩
theorem some_inj {a b:Bool} (h:some (a,())=some (b,())):a=b:=by
 injection h with h;injection h with h _
theorem m7 (d:bY) (h:ow d≤1048576):fo d.1 d.2.1 d.2.2.1 d.2.2.2.1 d.2.2.2.2.1 d.2.2.2.2.2.1 d.2.2.2.2.2.2.1 d.2.2.2.2.2.2.2.1 d.2.2.2.2.2.2.2.2.1 d.2.2.2.2.2.2.2.2.2.1 d.2.2.2.2.2.2.2.2.2.2.1 d.2.2.2.2.2.2.2.2.2.2.2.1 d.2.2.2.2.2.2.2.2.2.2.2.2.1 d.2.2.2.2.2.2.2.2.2.2.2.2.2.1 d.2.2.2.2.2.2.2.2.2.2.2.2.2.2.1 d.2.2.2.2.2.2.2.2.2.2.2.2.2.2.2.1 d.2.2.2.2.2.2.2.2.2.2.2.2.2.2.2.2.1 d.2.2.2.2.2.2.2.2.2.2.2.2.2.2.2.2.2.1 d.2.2.2.2.2.2.2.2.2.2.2.2.2.2.2.2.2.2.1 d.2.2.2.2.2.2.2.2.2.2.2.2.2.2.2.2.2.2.2.1 d.2.2.2.2.2.2.2.2.2.2.2.2.2.2.2.2.2.2.2.2.1 d.2.2.2.2.2.2.2.2.2.2.2.2.2.2.2.2.2.2.2.2.2.1 d.2.2.2.2.2.2.2.2.2.2.2.2.2.2.2.2.2.2.2.2.2.2.1 d.2.2.2.2.2.2.2.2.2.2.2.2.2.2.2.2.2.2.2.2.2.2.2.1=some (jU d,())∧dW d.1 d.2.1 d.2.2.1 d.2.2.2.1 d.2.2.2.2.1 d.2.2.2.2.2.1 d.2.2.2.2.2.2.1 d.2.2.2.2.2.2.2.1 d.2.2.2.2.2.2.2.2.1 d.2.2.2.2.2.2.2.2.2.1 d.2.2.2.2.2.2.2.2.2.2.1 d.2.2.2.2.2.2.2.2.2.2.2.1 d.2.2.2.2.2.2.2.2.2.2.2.2.1 d.2.2.2.2.2.2.2.2.2.2.2.2.2.1 d.2.2.2.2.2.2.2.2.2.2.2.2.2.2.1 d.2.2.2.2.2.2.2.2.2.2.2.2.2.2.2.1 d.2.2.2.2.2.2.2.2.2.2.2.2.2.2.2.2.1 d.2.2.2.2.2.2.2.2.2.2.2.2.2.2.2.2.2.1 d.2.2.2.2.2.2.2.2.2.2.2.2.2.2.2.2.2.2.1 d.2.2.2.2.2.2.2.2.2.2.2.2.2.2.2.2.2.2.2.1 d.2.2.2.2.2.2.2.2.2.2.2.2.2.2.2.2.2.2.2.2.1 d.2.2.2.2.2.2.2.2.2.2.2.2.2.2.2.2.2.2.2.2.2.1 d.2.2.2.2.2.2.2.2.2.2.2.2.2.2.2.2.2.2.2.2.2.2.1 d.2.2.2.2.2.2.2.2.2.2.2.2.2.2.2.2.2.2.2.2.2.2.2.1=some (jU d,())∧(jU d=true↔ye d):=by
 obtain ⟨b,k1,k2⟩:=JN d.1 d.2.1 d.2.2.1 d.2.2.2.1 d.2.2.2.2.1 d.2.2.2.2.2.1 d.2.2.2.2.2.2.1 d.2.2.2.2.2.2.2.1 d.2.2.2.2.2.2.2.2.1 d.2.2.2.2.2.2.2.2.2.1 d.2.2.2.2.2.2.2.2.2.2.1 d.2.2.2.2.2.2.2.2.2.2.2.1 d.2.2.2.2.2.2.2.2.2.2.2.2.1 d.2.2.2.2.2.2.2.2.2.2.2.2.2.1 d.2.2.2.2.2.2.2.2.2.2.2.2.2.2.1 d.2.2.2.2.2.2.2.2.2.2.2.2.2.2.2.1 d.2.2.2.2.2.2.2.2.2.2.2.2.2.2.2.2.1 d.2.2.2.2.2.2.2.2.2.2.2.2.2.2.2.2.2.1 d.2.2.2.2.2.2.2.2.2.2.2.2.2.2.2.2.2.2.1 d.2.2.2.2.2.2.2.2.2.2.2.2.2.2.2.2.2.2.2.1 d.2.2.2.2.2.2.2.2.2.2.2.2.2.2.2.2.2.2.2.2.1 d.2.2.2.2.2.2.2.2.2.2.2.2.2.2.2.2.2.2.2.2.2.1 d.2.2.2.2.2.2.2.2.2.2.2.2.2.2.2.2.2.2.2.2.2.2.1 d.2.2.2.2.2.2.2.2.2.2.2.2.2.2.2.2.2.2.2.2.2.2.2.1 h;have hb:jU d=b:=by unfold jU;rw [k1]
 rw [hb];refine ⟨k1,k2,?_⟩;have h0:=h;unfold ow at h0;have n1:gn d.2.2.1 d.2.2.2.1 d.2.2.2.2.1 d.2.2.2.2.2.1 d.2.2.2.2.2.2.1 d.2.2.2.2.2.2.2.1 d.2.2.2.2.2.2.2.2.1 d.2.2.2.2.2.2.2.2.2.1 d.2.2.2.2.2.2.2.2.2.2.1 d.2.2.2.2.2.2.2.2.2.2.2.1 d.2.2.2.2.2.2.2.2.2.2.2.2.1 d.2.2.2.2.2.2.2.2.2.2.2.2.2.1 d.2.2.2.2.2.2.2.2.2.2.2.2.2.2.1 d.2.2.2.2.2.2.2.2.2.2.2.2.2.2.2.1 d.2.2.2.2.2.2.2.2.2.2.2.2.2.2.2.2.1 d.2.2.2.2.2.2.2.2.2.2.2.2.2.2.2.2.2.1=some (Bp (aE d),()):=(OE (aE d)).1;have n3:=(OE (aE d)).2.2;have hw:mg (aE d)≤1048576:=by
  show (List.length d.2.2.2.2.1+wl jR d.2.2.2.2.1)+(List.length d.2.2.2.2.2.1+wl dF d.2.2.2.2.2.1)+(List.length d.2.2.2.2.2.2.1+wl jR d.2.2.2.2.2.2.1)+(List.length d.2.2.2.2.2.2.2.1+wl JK d.2.2.2.2.2.2.2.1)+(List.length d.2.2.2.2.2.2.2.2.2.2.2.2.2.2.2.2.2.1+wl jR d.2.2.2.2.2.2.2.2.2.2.2.2.2.2.2.2.2.1)≤1048576;omega
 have m1:fh d.2.2.1 d.2.2.2.1 d.2.2.2.2.1 d.2.2.2.2.2.1 d.2.2.2.2.2.2.1 d.2.2.2.2.2.2.2.1 d.2.2.2.2.2.2.2.2.1 d.2.2.2.2.2.2.2.2.2.1 d.2.2.2.2.2.2.2.2.2.2.1 d.2.2.2.2.2.2.2.2.2.2.2.1 d.2.2.2.2.2.2.2.2.2.2.2.2.1 d.2.2.2.2.2.2.2.2.2.2.2.2.2.1 d.2.2.2.2.2.2.2.2.2.2.2.2.2.2.1 d.2.2.2.2.2.2.2.2.2.2.2.2.2.2.2.1 d.2.2.2.2.2.2.2.2.2.2.2.2.2.2.2.2.1 d.2.2.2.2.2.2.2.2.2.2.2.2.2.2.2.2.2.1=some (sW (aE d),()):=(qX (aE d) hw).1;have m3:=(qX (aE d) hw).2.2;obtain ⟨r1,_⟩:=u9 d.2.2.2.2.2.2.2.2.2.2.2.2.2.2.2.2.2.2.2.2.1 d.2.2.2.2.2.2.2.2.2.2.2.2.2.2.2.2.2.2.2.2.2.1;obtain ⟨q1,_,q3⟩:=qU d.2.2.2.2.2.2.2.2.2.2.2.2.2.2.2.2.2.2.2.2.1 d.2.2.2.2.2.2.2.2.2.2.2.2.2.2.2.2.2.2.2.2.2.1 (by omega);have c1:=zH d.2.2.2.2.2.2.2.2.2.2.2.2.2.2.2.2.2.2.2.2.2.1 d.1 (by omega);obtain ⟨e,g1,g2⟩:=Yd d h;have hnr:(decide (d.2.2.2.2.2.2.2.2.2.2.2.2.2.2.2.2.2.2.2.2.1=0)&&decide (((List.length d.2.2.2.2.2.2.2.2.2.2.2.2.2.2.2.2.2.2.2.2.2.1:Nat):Int)=0))=true↔(d.2.2.2.2.2.2.2.2.2.2.2.2.2.2.2.2.2.2.2.2.1=0∧d.2.2.2.2.2.2.2.2.2.2.2.2.2.2.2.2.2.2.2.2.2.1=[]):=by rw [qV,aaf]
 unfold fo at k1;simp only [mE,n1,m1,r1,q1,c1,g1,Option.bind_some] at k1
 cases e1:(decide (1≤d.1)&&decide (d.1≤5))
 ·rw [e1] at k1;have:=some_inj k1;subst this;exact ⟨fun h=>(by cases h),fun h=>by rw [qV.2 h.id] at e1;cases e1⟩
 have a1:=lG e1
 cases e2:(decide (0≤d.2.2.2.2.2.2.2.2.2.2.2.2.2.2.2.2.2.2.1)&&decide (d.2.2.2.2.2.2.2.2.2.2.2.2.2.2.2.2.2.2.1≤9))
 ·rw [e1,e2] at k1;have:=some_inj k1;subst this;exact ⟨fun h=>(by cases h),fun h=>by rw [qV.2 h.xD] at e2;cases e2⟩
 have a2:=lG e2;rw [e1,e2] at k1;simp only [Bool.not_true,cond_false] at k1
 cases e3:d.2.1
 ·-- it auu
  rw [e3] at k1;have tail:(sW (aE d)=true→d.2.2.1=d.1→False)∨True:=.inr trivial;have rest:(Lt (aE d)∨(qW (aE d)∧d.2.2.1=d.1))→(0≤d.2.2.2.1∧d.2.2.2.1≤9)→(bif !decide (d.2.2.2.2.2.2.2.2.2.2.2.2.2.2.2.2.2.2.2.1=d.2.2.2.1) then some (false,()) else bif decide (d.2.2.2.2.2.2.2.2.2.2.2.2.2.2.2.2.2.2.1<d.2.2.2.2.2.2.2.2.2.2.2.2.2.2.2.2.2.2.2.1) then some (false,()) else
    bif (decide (d.2.2.2.2.2.2.2.2.2.2.2.2.2.2.2.2.2.2.2.2.1=0)&&decide (((List.length d.2.2.2.2.2.2.2.2.2.2.2.2.2.2.2.2.2.2.2.2.2.1:Nat):Int)=0)) then some (decide (((List.length d.2.2.2.2.2.2.2.2.2.2.2.2.2.2.2.2.2.2.2.2.2.2.1:Nat):Int)=0),()) else
    bif !yd d.2.2.2.2.2.2.2.2.2.2.2.2.2.2.2.2.2.2.2.2.1 d.2.2.2.2.2.2.2.2.2.2.2.2.2.2.2.2.2.2.2.2.2.1 then some (false,()) else bif !decide ((d.1,())∈d.2.2.2.2.2.2.2.2.2.2.2.2.2.2.2.2.2.2.2.2.2.1) then some (false,()) else
    bif !(decide (IntKind.i64.wrap (d.2.2.2.2.2.2.2.2.2.2.2.2.2.2.2.2.2.2.2.1+(1:Int))≤d.2.2.2.2.2.2.2.2.2.2.2.2.2.2.2.2.2.2.2.2.1)&&decide (d.2.2.2.2.2.2.2.2.2.2.2.2.2.2.2.2.2.2.2.2.1≤d.2.2.2.2.2.2.2.2.2.2.2.2.2.2.2.2.2.2.1)) then some (false,()) else bZ (some e) (fun _=>some (true,())) (fun y=>some (y.1,())))=some (b,())→(b=true↔ye d):=by
   intro hm hr k
   by_cases o1:d.2.2.2.2.2.2.2.2.2.2.2.2.2.2.2.2.2.2.2.1=d.2.2.2.1
   case neg=>
    rw [aq o1] at k;have:=some_inj k;subst this;exact ⟨fun h=>(by cases h),fun h=>absurd h.old.1 o1⟩
   by_cases o2:d.2.2.2.2.2.2.2.2.2.2.2.2.2.2.2.2.2.2.1<d.2.2.2.2.2.2.2.2.2.2.2.2.2.2.2.2.2.2.2.1
   ·rw [ak o1,ak o2] at k;have:=some_inj k;subst this;exact ⟨fun h=>(by cases h),fun h=>by have:=h.old.2;omega⟩
   rw [ak o1,aq o2,dq (by omega) (by omega)] at k;have mk:((d.2.2.2.2.2.2.2.2.2.2.2.2.2.2.2.2.2.2.2.2.1=0∧d.2.2.2.2.2.2.2.2.2.2.2.2.2.2.2.2.2.2.2.2.2.1=[]∧d.2.2.2.2.2.2.2.2.2.2.2.2.2.2.2.2.2.2.2.2.2.2.1=[])∨(lU d.2.2.2.2.2.2.2.2.2.2.2.2.2.2.2.2.2.2.2.2.1 d.2.2.2.2.2.2.2.2.2.2.2.2.2.2.2.2.2.2.2.2.2.1∧(d.1,())∈d.2.2.2.2.2.2.2.2.2.2.2.2.2.2.2.2.2.2.2.2.2.1∧(d.2.2.2.2.2.2.2.2.2.2.2.2.2.2.2.2.2.2.2.1+1≤d.2.2.2.2.2.2.2.2.2.2.2.2.2.2.2.2.2.2.2.2.1∧d.2.2.2.2.2.2.2.2.2.2.2.2.2.2.2.2.2.2.2.2.1≤d.2.2.2.2.2.2.2.2.2.2.2.2.2.2.2.2.2.2.1)∧∀b∈d.2.2.2.2.2.2.2.2.2.2.2.2.2.2.2.2.2.2.2.2.2.2.1,C1 b∧b.2.1=d.2.2.2.2.2.2.2.2.2.2.2.2.2.2.2.2.2.2.2.2.1))→ye d:=fun hj=>
    ⟨a1,a2,fun hd=>(by rw [e3] at hd;cases hd),hm,⟨o1,by omega⟩,hj⟩
   cases e4:(decide (d.2.2.2.2.2.2.2.2.2.2.2.2.2.2.2.2.2.2.2.2.1=0)&&decide (((List.length d.2.2.2.2.2.2.2.2.2.2.2.2.2.2.2.2.2.2.2.2.2.1:Nat):Int)=0))
   ·have YU:¬(d.2.2.2.2.2.2.2.2.2.2.2.2.2.2.2.2.2.2.2.2.1=0∧d.2.2.2.2.2.2.2.2.2.2.2.2.2.2.2.2.2.2.2.2.2.1=[]∧d.2.2.2.2.2.2.2.2.2.2.2.2.2.2.2.2.2.2.2.2.2.2.1=[]):=fun hz=>by rw [hnr.2 ⟨hz.1,hz.2.1⟩] at e4;cases e4
    rw [e4] at k
    cases e5:yd d.2.2.2.2.2.2.2.2.2.2.2.2.2.2.2.2.2.2.2.2.1 d.2.2.2.2.2.2.2.2.2.2.2.2.2.2.2.2.2.2.2.2.2.1
    ·rw [e5] at k;have:=some_inj k;subst this;exact ⟨fun h=>(by cases h),fun h=>by
      rcases h.nS with q | q
      ·exact absurd q YU
      ·rw [q3.2 q.1] at e5;cases e5⟩
    by_cases e6:(d.1,())∈d.2.2.2.2.2.2.2.2.2.2.2.2.2.2.2.2.2.2.2.2.2.1
    case neg=>
     rw [e5,aq e6] at k;have:=some_inj k;subst this;exact ⟨fun h=>(by cases h),fun h=>by
      rcases h.nS with q | q
      ·exact absurd q YU
      ·exact absurd q.2.1 e6⟩
    cases e7:(decide (d.2.2.2.2.2.2.2.2.2.2.2.2.2.2.2.2.2.2.2.1+1≤d.2.2.2.2.2.2.2.2.2.2.2.2.2.2.2.2.2.2.2.2.1)&&decide (d.2.2.2.2.2.2.2.2.2.2.2.2.2.2.2.2.2.2.2.2.1≤d.2.2.2.2.2.2.2.2.2.2.2.2.2.2.2.2.2.2.1))
    ·rw [e5,ak e6,e7] at k;have:=some_inj k;subst this;exact ⟨fun h=>(by cases h),fun h=>by
      rcases h.nS with q | q
      ·exact absurd q YU
      ·rw [qV.2 q.2.2.1] at e7;cases e7⟩
    rw [e5,ak e6,e7] at k;rcases g2 with ⟨rfl,g⟩ | ⟨rfl,g⟩
    ·have:=some_inj k;subst this;exact ⟨fun _=>mk (.inr ⟨q3.1 e5,e6,lG e7,g⟩),fun _=>rfl⟩
    ·have:=some_inj k;subst this;exact ⟨fun h=>(by cases h),fun h=>by
      rcases h.nS with q | q
      ·exact absurd q YU
      ·exact absurd q.2.2.2 g⟩
   ·have hn:=hnr.1 e4;rw [e4] at k;have:=some_inj k;subst this;rw [decide_eq_true_eq,aaf];refine ⟨fun h=>mk (.inl ⟨hn.1,hn.2,h⟩),fun h => ?_⟩;rcases h.nS with q | q
    ·exact q.2.2
    ·have:=q.1.1.1;omega
  cases e4:Bp (aE d)
  ·rw [e4] at k1;simp only [Bool.not_false,cond_true] at k1;have nn:¬Lt (aE d):=fun hz=>by rw [n3.2 hz] at e4;cases e4
   cases e5:sW (aE d)
   ·rw [e5] at k1;have:=some_inj k1;subst this;exact ⟨fun h=>(by cases h),fun h=>by
     rcases h.tS with q | q
     ·exact absurd q nn
     ·rw [m3.2 q.1] at e5;cases e5⟩
   by_cases e6:d.2.2.1=d.1
   case neg=>
    rw [e5,aq e6] at k1;have:=some_inj k1;subst this;exact ⟨fun h=>(by cases h),fun h=>by
     rcases h.tS with q | q
     ·exact absurd q nn
     ·exact absurd q.2 e6⟩
   rw [e5,ak e6] at k1;have hq:=m3.1 e5;have h3:1≤d.2.2.2.1∧d.2.2.2.1≤9:=hq.ring.1;exact rest (.inr ⟨hq,e6⟩) ⟨by omega,h3.2⟩ k1
  ·rw [e4] at k1;have hz:=n3.1 e4;have h3:d.2.2.2.1=0:=hz.2.1;exact rest (.inl hz) ⟨by omega,by omega⟩ k1
 ·-- it is dead
  rw [e3] at k1;simp only [cond_true] at k1
  cases e4:Bp (aE d)
  ·rw [e4] at k1;have:=some_inj k1;subst this;exact ⟨fun h=>(by cases h),fun h=>by rw [n3.2 (h.dead e3).1] at e4;cases e4⟩
  have hz:=n3.1 e4
  by_cases e5:d.2.2.2.2.2.2.2.2.2.2.2.2.2.2.2.2.2.2.2.1=0
  case neg=>
   rw [e4,aq e5] at k1;have:=some_inj k1;subst this;exact ⟨fun h=>(by cases h),fun h=>absurd (h.dead e3).2.1 e5⟩
  cases e6:(decide (d.2.2.2.2.2.2.2.2.2.2.2.2.2.2.2.2.2.2.2.2.1=0)&&decide (((List.length d.2.2.2.2.2.2.2.2.2.2.2.2.2.2.2.2.2.2.2.2.2.1:Nat):Int)=0))
  ·rw [e4,ak e5,e6] at k1;have:=some_inj k1;subst this;exact ⟨fun h=>(by cases h),fun h=>by rw [hnr.2 ⟨(h.dead e3).2.2.1,(h.dead e3).2.2.2.1⟩] at e6;cases e6⟩
  have hn:=hnr.1 e6;rw [e4,ak e5,e6] at k1;have:=some_inj k1;subst this;rw [decide_eq_true_eq,aaf];have h3:d.2.2.2.1=0:=hz.2.1;exact ⟨fun h=>⟨a1,a2,fun _=>⟨hz,e5,hn.1,hn.2,h⟩,.inl hz,⟨by omega,by omega⟩,.inl ⟨hn.1,hn.2,h⟩⟩,fun h=>(h.dead e3).2.2.2.2⟩
end Go.TM
set_option linter.unusedSimpArgs false
set_option linter.unusedVariables false
namespace Go.TM
open Go
def mh:aU→dY→aU
 | [],m=>[m]
 |r::xs,m=>if r.1<m.1 then r::mh xs m else if r.1=m.1 then r::xs else m::r::xs
def Uk (xs:aU):Prop:=xs.Pairwise fun a b=>a.1<b.1
def oX (xs:aU) (m:dY):Nat:=(xs.takeWhile fun r=>decide (r.1<m.1)).length
theorem aag (xs:aU) (m:dY):oX xs m≤xs.length:=(List.takeWhile_sublist _).length_le
theorem Fx (r:dY) (xs:aU) (m:dY):oX (r::xs) m=if r.1<m.1 then oX xs m+1 else 0:=by
 unfold oX;rw [List.takeWhile_cons]
 by_cases h:r.1<m.1
 ·simp [h]
 ·simp [h]
theorem OF (m:dY):(xs:aU)→mh xs m=if h:oX xs m<xs.length then (if xs[oX xs m].1=m.1 then xs else xs.take (oX xs m)++([m]++xs.drop (oX xs m))) else xs.take (oX xs m)++([m]++xs.drop (oX xs m))
 | []=>rfl
 |r::xs=>by
  have ih:=OF m xs;unfold mh
  by_cases h:r.1<m.1
  ·rw [if_pos h,ih];have hp:oX (r::xs) m=oX xs m+1:=by rw [Fx,if_pos h]
   by_cases h2:oX xs m<xs.length
   ·have h3:oX (r::xs) m<(r::xs).length:=by rw [hp,List.length_cons];omega
    rw [dif_pos h2,dif_pos h3];have e:(r::xs)[oX (r::xs) m]=xs[oX xs m]:=by simp [hp]
    rw [e]
    by_cases h4:xs[oX xs m].1=m.1
    ·rw [if_pos h4,if_pos h4]
    ·rw [if_neg h4,if_neg h4,hp];rfl
   ·have h3:¬oX (r::xs) m<(r::xs).length:=by rw [hp,List.length_cons];omega
    rw [dif_neg h2,dif_neg h3,hp];rfl
  ·rw [if_neg h];have hp:oX (r::xs) m=0:=by rw [Fx,if_neg h]
   have h3:oX (r::xs) m<(r::xs).length:=by rw [hp,List.length_cons];omega
   rw [dif_pos h3];have e:(r::xs)[oX (r::xs) m]=r:=by simp [hp]
   rw [e,hp];rfl
theorem Ye {xs:aU} (h:fa xs xs.length):Uk xs:=by
 have key:∀(d i:Nat) (hi:i+d+1<xs.length),xs[i].1<xs[i+d+1].1:=by
  intro d
  induction d with
  |zero=>intro i hi;exact (h (i+1) hi hi).2 (by omega)
  |succ d ih=>
   intro i hi;have h1:=ih i (by omega);have h2:=(h (i+(d+1)+1) hi hi).2 (by omega);have e:i+(d+1)+1-1=i+d+1:=by omega
   simp only [e] at h2;omega
 unfold Uk;rw [List.pairwise_iff_getElem];intro i j hi hj VS;have:=key (j-i-1) i (by omega);simpa [show i+(j-i-1)+1=j by omega] using this
theorem Yf {xs:aU} (h:Uk xs) (hi:∀r∈xs,p8 r):fa xs xs.length:=by
 intro k hk _;refine ⟨hi _ (List.getElem_mem hk),fun h0 => ?_⟩;unfold Uk at h;rw [List.pairwise_iff_getElem] at h;exact h (k-1) k (by omega) hk (by omega)
theorem sg {xs:aU} (h:fa xs xs.length):∀r∈xs,p8 r:=by
 intro r hr;obtain ⟨k,hk,rfl⟩:=List.mem_iff_getElem.1 hr;exact (h k hk hk).1
theorem IS {r m:dY}:{xs:aU}→r∈mh xs m→r=m∨r∈xs
 | [],h=>by
  unfold mh at h;exact .inl (List.mem_singleton.1 h)
 |x::xs,h=>by
  unfold mh at h
  split at h
  ·rcases List.mem_cons.1 h with rfl | h
   ·exact .inr List.mem_cons_self
   ·exact (IS h).imp id (List.mem_cons_of_mem _)
  ·split at h
   ·exact .inr h
   ·rcases List.mem_cons.1 h with rfl | h
    ·exact .inl rfl
    ·exact .inr h
theorem OG {m:dY}:{xs:aU}→Uk xs→Uk (mh xs m)
 | [],_=>by unfold mh Uk;simp
 |x::xs,h=>by
  unfold Uk at h;rw [List.pairwise_cons] at h;unfold mh
  split
  ·rename_i dO;unfold Uk;rw [List.pairwise_cons];refine ⟨fun y hy => ?_,OG h.2⟩;rcases IS hy with rfl | hy
   ·exact dO
   ·exact h.1 y hy
  ·split
   ·unfold Uk;rw [List.pairwise_cons];exact h
   ·unfold Uk;rw [List.pairwise_cons,List.pairwise_cons];refine ⟨fun y hy => ?_,h⟩;rcases List.mem_cons.1 hy with rfl | hy
    ·omega
    ·have:=h.1 y hy;omega
theorem zL {xs:aU} {m:dY} (h:fa xs xs.length) (hm:p8 m):fa (mh xs m) (mh xs m).length:=
 Yf (OG (Ye h)) fun r hr=>(IS hr).elim (fun e=>e▸hm) (sg h r)
def p9 (xs:aU) (m:dY):aU:=xs.filter fun r=>decide (r.1<m.1)
def wy (xs:aU) (m:dY):aU:=xs.filter fun r=>decide (m.1<r.1)
def Ej (xs:aU) (s:Int):Bool:=xs.any fun r=>decide (r.1=s)
theorem Gi (m:dY):(xs:aU)→Uk xs→mh xs m=bif Ej xs m.1 then xs else p9 xs m++[m]++wy xs m
 | [],_=>rfl
 |r::xs,h=>by
  unfold Uk at h;rw [List.pairwise_cons] at h;have ih:=Gi m xs h.2;unfold mh
  by_cases h1:r.1<m.1
  ·rw [if_pos h1,ih];have e1:Ej (r::xs) m.1=Ej xs m.1:=by unfold Ej;rw [List.any_cons,aq (show ¬r.1=m.1 by omega)];rfl
   have e2:p9 (r::xs) m=r::p9 xs m:=by unfold p9;rw [List.filter_cons,if_pos (ak h1)]
   have e3:wy (r::xs) m=wy xs m:=by unfold wy;rw [List.filter_cons,if_neg (by rw [decide_eq_true_eq];omega)]
   rw [e1,e2,e3]
   cases Ej xs m.1<;>rfl
  ·rw [if_neg h1]
   by_cases h2:r.1=m.1
   ·have e1:Ej (r::xs) m.1=true:=by unfold Ej;rw [List.any_cons,ak h2];rfl
    rw [if_pos h2,e1];rfl
   ·rw [if_neg h2];have q8:∀y∈r::xs,m.1<y.1:=by
     intro y hy;rcases List.mem_cons.1 hy with rfl | hy
     ·omega
     ·have:=h.1 y hy;omega
    have e1:Ej (r::xs) m.1=false:=by
     unfold Ej;rw [List.any_eq_false];intro y hy;have:=q8 y hy;rw [decide_eq_true_eq];omega
    have e2:p9 (r::xs) m=[]:=by
     unfold p9;rw [List.filter_eq_nil_iff];intro y hy;have:=q8 y hy;rw [decide_eq_true_eq];omega
    have e3:wy (r::xs) m=r::xs:=by
     unfold wy;rw [List.filter_eq_self];intro y hy;exact ak (q8 y hy)
    rw [e1,e2,e3];rfl
theorem zM (xs:aU) (m:dY) (h:xs.length≤1048576) (hi:m6 xs=true) (hm:Ab m=true):jg xs m.1 m.2.1 m.2.2.1 m.2.2.2.1=some (mh xs m,()):=by
 obtain ⟨k1,_,k3⟩:=pr xs h;obtain ⟨q1,_,_⟩:=zK m;have hs:=Ye (k3.1 hi);have hlen:∀k,(p9 (xs.take k) m).length≤k:=fun k=>Nat.le_trans (List.length_filter_le _ _) (by rw [List.length_take];omega)
 have N0:∀k,(wy (xs.take k) m).length≤k:=fun k=>Nat.le_trans (List.length_filter_le _ _) (by rw [List.length_take];omega)
 have l1:=sK (round:=ka) (n:=xs.length) (fun k=>(xs,m.1,m.2.1,m.2.2.1,m.2.2.2.1,xs,p9 (xs.take k) m,((k:Nat):Int),())) (fun k=>some (bif Ej (xs.drop k) m.1 then .inr (xs,()) else .inl (xs,m.1,m.2.1,m.2.2.1,m.2.2.2.1,p9 xs m,())))
  ⟨.inl (xs,m.1,m.2.1,m.2.2.1,m.2.2.2.1,p9 xs m,()),by simp only [ka,bC,th,aA,aN,cond_false,List.take_length],by rw [List.drop_length];rfl⟩ (fun k hk=>by
   have e:Ej (xs.drop k) m.1=(decide (xs[k].1=m.1)||Ej (xs.drop (k+1)) m.1):=by unfold Ej;rw [List.drop_eq_getElem_cons hk,List.any_cons]
   have e2:p9 (xs.take (k+1)) m=p9 (xs.take k) m++(if decide (xs[k].1<m.1)=true then [xs[k]] else []):=by
    unfold p9;rw [List.take_succ_eq_append_getElem hk,List.filter_append,List.filter_cons]
    split<;>rfl
   have hb:Nat.ble (((p9 (xs.take k) m).length+1)*40) lim=true:=aS (by have:=hlen k;unfold lim;omega);simp only [ka,bC,th,aA,aF hk,ax,cond_true,aG,List.getElem?_eq_getElem hk,Option.bind_some,aM (show k<4611686018427387904 by omega),hb,e,e2]
   by_cases h1:xs[k].1=m.1
   ·rw [ak h1];exact .inl ⟨_,rfl,rfl⟩
   ·rw [aq h1];refine .inr ⟨?_,rfl⟩
    by_cases h2:xs[k].1<m.1
    ·rw [ak h2];rfl
    ·rw [aq h2,if_neg (by decide),List.append_nil];rfl) 0 (Nat.zero_le _)
 have l1:aJ ka (xs,m.1,m.2.1,m.2.2.1,m.2.2.2.1,xs,[],(0:Int),())=_:=l1;rw [List.drop_zero] at l1;have l2:=ck (round:=iU) (e:=.inl (p9 xs m++[m]++wy xs m,())) xs.length (fun k=>(xs,m.1,m.2.1,m.2.2.1,m.2.2.2.1,p9 xs m++[m]++wy (xs.take k) m,((k:Nat):Int),())) (by
  simp only [iU,aT,ti,aA,aN,cond_false,List.take_length]) (fun k hk=>by
   have e2:wy (xs.take (k+1)) m=wy (xs.take k) m++(if decide (m.1<xs[k].1)=true then [xs[k]] else []):=by
    unfold wy;rw [List.take_succ_eq_append_getElem hk,List.filter_append,List.filter_cons]
    split<;>rfl
   have hb:Nat.ble (((p9 xs m++[m]++wy (xs.take k) m).length+1)*40) lim=true:=aS (by
    have h1:=hlen xs.length;rw [List.take_length] at h1;have h2:=N0 k;simp only [List.length_append,List.length_cons,List.length_nil];unfold lim;omega)
   simp only [iU,aT,ti,aA,aF hk,ax,cond_true,aG,List.getElem?_eq_getElem hk,Option.bind_some,aM (show k<4611686018427387904 by omega),hb,e2]
   by_cases h2:m.1<xs[k].1
   ·rw [ak h2,if_pos rfl,←List.append_assoc];rfl
   ·rw [aq h2,if_neg (by decide),List.append_nil];rfl)
 have l2:aJ iU (xs,m.1,m.2.1,m.2.2.1,m.2.2.2.1,p9 xs m++[m]++wy (xs.take 0) m,(0:Int),())=_:=l2;rw [show wy (xs.take 0) m=[] from rfl,List.append_nil] at l2;have Xb:Nat.ble ((0+xs.length)*40) lim=true:=aS (by unfold lim;omega);have M4:Nat.ble (((p9 xs m).length+1)*40) lim=true:=aS (by
  have h1:=hlen xs.length;rw [List.take_length] at h1;unfold lim;omega)
 rw [Gi m xs hs];unfold jg;delta aA;simp only [k1,q1,hi,hm,Xb,cond_true,Bool.not_true,cond_false,Option.bind_some,List.nil_append,l1]
 cases Ej xs m.1
 ·have l3:aJ iU (xs,m.1,m.2.1,m.2.2.1,m.2.2.2.1,p9 xs m++[(m.1,m.2.1,m.2.2.1,m.2.2.2.1,())],(0:Int),())=_:=l2;simp only [cond_false,bZ,Option.bind_some,M4,cond_true,l3]
 ·rfl
theorem zN (xs:aU) (m:dY) (h:xs.length≤1048576):og xs m.1 m.2.1 m.2.2.1 m.2.2.2.1=some (mh xs m,()):=by
 have l1:=sK (round:=kq) (n:=xs.length) (fun k=>(xs,m.1,m.2.1,m.2.2.1,m.2.2.2.1,((k:Nat):Int),())) (fun k=>some (.inl (xs,m.1,m.2.1,m.2.2.1,m.2.2.2.1,((k+oX (xs.drop k) m:Nat):Int),())))
  ⟨.inl (xs,m.1,m.2.1,m.2.2.1,m.2.2.2.1,((xs.length:Nat):Int),()),by simp only [kq,aT,tO,aN,cond_false],by rw [List.drop_length];rfl⟩ (fun k hk=>by
   have e:oX (xs.drop k) m=if xs[k].1<m.1 then oX (xs.drop (k+1)) m+1 else 0:=by rw [List.drop_eq_getElem_cons hk,Fx]
   simp only [kq,aT,tO,aF hk,ax,cond_true,aG,fZ hk,List.getElem?_eq_getElem hk,Option.bind_some,aM (show k<4611686018427387904 by omega),e]
   by_cases h1:xs[k].1<m.1
   ·rw [ak h1,if_pos h1];exact .inr ⟨rfl,by rw [show k+(oX (xs.drop (k+1)) m+1)=k+1+oX (xs.drop (k+1)) m by omega]⟩
   ·rw [aq h1,if_neg h1];exact .inl ⟨_,rfl,rfl⟩) 0 (Nat.zero_le _)
 have l1:aJ kq (xs,m.1,m.2.1,m.2.2.1,m.2.2.2.1,(0:Int),())=_:=l1;rw [List.drop_zero,Nat.zero_add] at l1;have hp:=aag xs m;have asN:Oq xs ((oX xs m:Nat):Int) [(m.1,m.2.1,m.2.2.1,m.2.2.2.1,())]=some (xs.take (oX xs m)++([m]++xs.drop (oX xs m)),()):=by
  unfold Oq;rw [ax,ak (show ((oX xs m:Nat):Int)≤((xs.length:Nat):Int) by omega),aS (show (xs.length+1)*40≤lim by unfold lim;omega)];rfl
 rw [OF];unfold og;delta aA;simp only [l1,bZ,asN,Option.bind_some]
 by_cases h1:oX xs m<xs.length
 ·simp only [dif_pos h1,aF h1,ax,aG,fZ h1,cond_true,List.getElem?_eq_getElem h1,Option.bind_some]
  by_cases h2:xs[oX xs m].1=m.1
  ·rw [ak h2,if_pos h2];rfl
  ·rw [aq h2,if_neg h2];rfl
 ·rw [dif_neg h1,aq (show ¬((oX xs m:Nat):Int)<((xs.length:Nat):Int) by omega)];rfl
noncomputable def IT (xs:aU) (m:dY):aU:=bif m6 xs&&Ab m then mh xs m else xs
theorem MF (xs:aU) (m:dY) (h:xs.length≤1048576):jg xs m.1 m.2.1 m.2.2.1 m.2.2.2.1=some (IT xs m,())∧uO xs m.1 m.2.1 m.2.2.1 m.2.2.2.1=some (IT xs m,()):=by
 obtain ⟨k1,k2,_⟩:=pr xs h;obtain ⟨q1,q2,_⟩:=zK m;have Xb:Nat.ble ((0+xs.length)*40) lim=true:=aS (by unfold lim;omega);unfold IT
 constructor
 ·cases hi:m6 xs
  ·unfold jg;delta aA;simp only [k1,hi,Xb,cond_true,Option.bind_some];rfl
  ·cases hm:Ab m
   ·unfold jg;delta aA;simp only [k1,q1,hi,hm,Xb,cond_true,Option.bind_some];rfl
   ·exact zM xs m h hi hm
 ·unfold uO;simp only [k2,q2,w8 xs h,Option.bind_some,zN xs m h]
  cases m6 xs<;>cases Ab m<;>rfl
def Lu (m:iG) (xs:aU):iG:=(m.1,m.2.1,m.2.2.1,xs,m.2.2.2.2)
noncomputable def qY (m:iG) (x:dY):iG:=bif sW m then Lu m (IT m.2.2.2.1 x) else m
theorem QE (m:iG) (x:dY) (h:mg m≤1048576):vU m.1 m.2.1 m.2.2.1 m.2.2.2.1 m.2.2.2.2.1 m.2.2.2.2.2.1 m.2.2.2.2.2.2.1 m.2.2.2.2.2.2.2.1 m.2.2.2.2.2.2.2.2.1 m.2.2.2.2.2.2.2.2.2.1 m.2.2.2.2.2.2.2.2.2.2.1 m.2.2.2.2.2.2.2.2.2.2.2.1 m.2.2.2.2.2.2.2.2.2.2.2.2.1 m.2.2.2.2.2.2.2.2.2.2.2.2.2.1 m.2.2.2.2.2.2.2.2.2.2.2.2.2.2.1 m.2.2.2.2.2.2.2.2.2.2.2.2.2.2.2.1 x.1 x.2.1 x.2.2.1 x.2.2.2.1=some (qY m x)∧wk m.1 m.2.1 m.2.2.1 m.2.2.2.1 m.2.2.2.2.1 m.2.2.2.2.2.1 m.2.2.2.2.2.2.1 m.2.2.2.2.2.2.2.1 m.2.2.2.2.2.2.2.2.1 m.2.2.2.2.2.2.2.2.2.1 m.2.2.2.2.2.2.2.2.2.2.1 m.2.2.2.2.2.2.2.2.2.2.2.1 m.2.2.2.2.2.2.2.2.2.2.2.2.1 m.2.2.2.2.2.2.2.2.2.2.2.2.2.1 m.2.2.2.2.2.2.2.2.2.2.2.2.2.2.1 m.2.2.2.2.2.2.2.2.2.2.2.2.2.2.2.1 x.1 x.2.1 x.2.2.1 x.2.2.2.1=some (qY m x):=by
 obtain ⟨k1,k2,_⟩:=qX m h;obtain ⟨p1,p2⟩:=nR m.1 m.2.1 m.2.2.1 m.2.2.2.1 m.2.2.2.2.1 m.2.2.2.2.2.1 m.2.2.2.2.2.2.1 m.2.2.2.2.2.2.2.1 m.2.2.2.2.2.2.2.2.1 m.2.2.2.2.2.2.2.2.2.1 m.2.2.2.2.2.2.2.2.2.2.1 m.2.2.2.2.2.2.2.2.2.2.2.1 m.2.2.2.2.2.2.2.2.2.2.2.2.1 m.2.2.2.2.2.2.2.2.2.2.2.2.2.1 m.2.2.2.2.2.2.2.2.2.2.2.2.2.2.1 m.2.2.2.2.2.2.2.2.2.2.2.2.2.2.2.1 h;have hl:m.2.2.2.1.length≤1048576:=by unfold mg at h;omega
 obtain ⟨q1,q2⟩:=MF m.2.2.2.1 x hl;unfold qY
 constructor
 ·unfold vU;simp only [p1,k1,q1,Option.bind_some]
  cases sW m<;>rfl
 ·unfold wk;simp only [p2,k2,q2,Option.bind_some]
  cases sW m<;>rfl
theorem Ul {xs:aU} {x:dY} (hx:fa xs xs.length):(IT xs x).length+wl dF (IT xs x)≤3660:=by
 have h1:=dm xs hx;unfold IT
 cases hc:m6 xs&&Ab x
 ·show xs.length+wl dF xs≤3660;omega
 ·have hm:p8 x:=(zK x).2.2.1 (by rw [Bool.and_eq_true] at hc;exact hc.2);have:=dm _ (zL hx hm);show (mh xs x).length+wl dF (mh xs x)≤3660;omega
theorem QF (m:iG) (x:dY) (h:mg m≤1048576):mg (qY m x)≤1048576:=by
 unfold qY
 cases hb:sW m
 ·exact h
 ·have hq:=(qX m h).2.2.1 hb;have h1:=hq.small;have h2:=Ul (x:=x) hq.items;unfold mg at h1;show (List.length m.2.2.1+wl jR m.2.2.1)+(List.length (IT m.2.2.2.1 x)+wl dF (IT m.2.2.2.1 x))+(List.length m.2.2.2.2.1+wl jR m.2.2.2.2.1)+(List.length m.2.2.2.2.2.1+wl JK m.2.2.2.2.2.1)+(List.length m.2.2.2.2.2.2.2.2.2.2.2.2.2.2.2.1+wl jR m.2.2.2.2.2.2.2.2.2.2.2.2.2.2.2.1)≤1048576;omega
end Go.TM
set_option linter.unusedSimpArgs false
set_option linter.unusedVariables false
namespace Go.TM
open Go
theorem w9 {α:Type} (p:α→Bool) (xs:List α) {k:Nat} (hk:k<xs.length):(xs.take (k+1)).filter p=(xs.take k).filter p++(if p xs[k]=true then [xs[k]] else []):=by
 rw [List.take_succ_eq_append_getElem hk,List.filter_append,List.filter_cons]
 split<;>rfl
theorem zO {α:Type} (p:α→Bool) (xs:List α) (k:Nat):((xs.take k).filter p).length≤k:=Nat.le_trans (List.length_filter_le _ _) (by rw [List.length_take];omega)
theorem zP:(l:aU)→{out:aU}→fa out out.length→(∀r∈l,p8 r)→fa (l.foldl mh out) (l.foldl mh out).length
 | [],_,h,_=>h
 |x::l,_,h,hl=>zP l (zL h (hl x List.mem_cons_self)) (fun r hr=>hl r (List.mem_cons_of_mem _ hr))
theorem si:fa [] ([]:aU).length:=fun k hk=>by simp at hk
noncomputable def iL (out:aU) (l:aU×Unit):aU:=bif m6 l.1 then l.1.foldl mh out else out
noncomputable def xE (lists:List (aU×Unit)):aU:=lists.foldl iL []
theorem QG {out:aU} {l:aU×Unit} (h:fa out out.length) (hl:l.1.length≤1048576):fa (iL out l) (iL out l).length:=by
 unfold iL
 cases hb:m6 l.1
 ·exact h
 ·exact zP l.1 h (sg ((pr l.1 hl).2.2.1 hb))
theorem nT:(lists:List (aU×Unit))→{out:aU}→fa out out.length→(∀l∈lists,l.1.length≤1048576)→fa (lists.foldl iL out) (lists.foldl iL out).length
 | [],_,h,_=>h
 |l::lists,_,h,hl=>nT lists (QG h (hl l List.mem_cons_self)) (fun x hx=>hl x (List.mem_cons_of_mem _ hx))
theorem yf {xs:aU} (h:fa xs xs.length):xs.length≤1048576:=Nat.le_trans (dm xs h).1 (by decide)
theorem aah {xs:aU} (h:fa xs xs.length):m6 xs=true:=(pr xs (yf h)).2.2.2 h
theorem ahe {r:dY} (h:p8 r):Ab r=true:=(zK r).2.2.2 h
theorem QH (lists:List (aU×Unit)) (h:lists.length≤1048576) (hl:∀l∈lists,l.1.length≤1048576):zg lists=some (xE lists,()):=by
 have l1:=ck (round:=mJ) (e:=.inl (xE lists,())) lists.length (fun k=>(lists,(lists.take k).foldl iL [],((k:Nat):Int),())) (by
  simp only [mJ,xr,aN,cond_false,List.take_length];rfl) (fun k hk=>by
  have Yg:=nT (lists.take k) (out:=[]) si (fun l By=>hl l (List.mem_of_mem_take By));have hlk:=hl _ (List.getElem_mem hk);rw [u7 _ _ _ hk];generalize (lists.take k).foldl iL []=out at Yg ⊢;obtain ⟨i1,_,i3⟩:=pr lists[k].1 hlk;simp only [mJ,xr,aF hk,cond_true]
  cases hb:m6 lists[k].1
  ·have l2:aJ ir (lists,out,((k:Nat):Int),(0:Int),())=some (.inl (lists,out,((k:Nat):Int),())):=by
    rw [jH]
    by_cases h0:(0:Int)<((List.length lists[k].1:Nat):Int)
    ·simp only [ir,aw,pk,aw,ax,cond_true,aG,List.getElem?_eq_getElem hk,Option.bind_some,ak h0,i1,hb,cond_false]
    ·simp only [ir,aw,pk,aw,ax,cond_true,aG,List.getElem?_eq_getElem hk,Option.bind_some,aq h0,cond_false]
   simp only [l2,bZ,Option.bind_some,iL,hb,cond_false,aM (show k<4611686018427387904 by omega)]
  ·have q8:=sg (i3.1 hb);have l2:=ck (round:=ir) (e:=.inl (lists,lists[k].1.foldl mh out,((k:Nat):Int),())) lists[k].1.length (fun j=>(lists,(lists[k].1.take j).foldl mh out,((k:Nat):Int),((j:Nat):Int),())) (by
    simp only [ir,aw,pk,aw,ax,cond_true,aG,List.getElem?_eq_getElem hk,Option.bind_some,aN,cond_false,List.take_length]) (fun j hj=>by
    have YS:=zP (lists[k].1.take j) Yg (fun r hr=>q8 r (List.mem_of_mem_take hr));have hp:=zM ((lists[k].1.take j).foldl mh out) lists[k].1[j] (yf YS) (aah YS) (ahe (q8 _ (List.getElem_mem hj)));simp only [ir,aw,pk,aw,ax,cond_true,aG,List.getElem?_eq_getElem hk,List.getElem?_eq_getElem hj,Option.bind_some,aF hj,i1,hb,hp,aM (show j<4611686018427387904 by omega)];rw [u7 _ _ _ hj])
   have l2:aJ ir (lists,out,((k:Nat):Int),(0:Int),())=_:=l2;simp only [l2,bZ,Option.bind_some,iL,hb,cond_true,aM (show k<4611686018427387904 by omega)])
 have l1:aJ mJ (lists,[],(0:Int),())=_:=l1;unfold zg;rw [l1];rfl
theorem QI (lists:List (aU×Unit)) (h:lists.length≤1048576) (hl:∀l∈lists,l.1.length≤1048576):zq lists=some (xE lists,()):=by
 have l1:=ck (round:=mN) (e:=.inl (xE lists,())) lists.length (fun k=>((lists.take k).foldl iL [],lists,((lists.length:Nat):Int),((k:Nat):Int),())) (by
  simp only [mN,aw,xw,aN,cond_false,List.take_length];rfl) (fun k hk=>by
  have Yg:=nT (lists.take k) (out:=[]) si (fun l By=>hl l (List.mem_of_mem_take By));have hlk:=hl _ (List.getElem_mem hk);rw [u7 _ _ _ hk];generalize (lists.take k).foldl iL []=out at Yg ⊢;obtain ⟨_,i2,i3⟩:=pr lists[k].1 hlk;simp only [mN,aw,xw,aF hk,cond_true,ax,aG,List.getElem?_eq_getElem hk,Option.bind_some,i2]
  cases hb:m6 lists[k].1
  ·simp only [iL,hb,Bool.not_false,cond_true,cond_false,aM (show k<4611686018427387904 by omega)]
  ·have q8:=sg (i3.1 hb);have l2:=ck (round:=mM) (e:=.inl (lists[k].1.foldl mh out,lists,((lists.length:Nat):Int),((k:Nat):Int),())) lists[k].1.length (fun j=>((lists[k].1.take j).foldl mh out,lists,((lists.length:Nat):Int),((k:Nat):Int),lists[k].1,((lists[k].1.length:Nat):Int),((j:Nat):Int),())) (by
    simp only [mM,aT,xv,aw,aN,cond_false,List.take_length]) (fun j hj=>by
    have YS:=zP (lists[k].1.take j) Yg (fun r hr=>q8 r (List.mem_of_mem_take hr));have hp:=zN ((lists[k].1.take j).foldl mh out) lists[k].1[j] (yf YS);simp only [mM,aT,xv,aw,ax,cond_true,aG,List.getElem?_eq_getElem hj,Option.bind_some,aF hj,hp,aM (show j<4611686018427387904 by omega)];rw [u7 _ _ _ hj])
   have l2:aJ mM (out,lists,((lists.length:Nat):Int),((k:Nat):Int),lists[k].1,((lists[k].1.length:Nat):Int),(0:Int),())=_:=l2;simp only [l2,bZ,Option.bind_some,iL,hb,Bool.not_true,cond_true,cond_false,aM (show k<4611686018427387904 by omega)])
 have l1:aJ mN ([],lists,((lists.length:Nat):Int),(0:Int),())=_:=l1;unfold zq;rw [l1];rfl
noncomputable def xF (xs:aU):aU:=xs.filter fun r=>decide (r.1≤((cY xs:Nat):Int))
theorem QJ (xs:aU) (h:xs.length≤1048576):zh xs=some (xF xs,()):=by
 obtain ⟨a1,_,_⟩:=xC xs h;have l1:=ck (round:=mK) (e:=.inl (xF xs,())) xs.length (fun k=>(xs,(xs.take k).filter (fun r=>decide (r.1≤((cY xs:Nat):Int))),((cY xs:Nat):Int),((k:Nat):Int),())) (by
  simp only [mK,aw,xt,aA,aN,cond_false,List.take_length];rfl) (fun k hk=>by
  have hb:=zO (fun r:dY=>decide (r.1≤((cY xs:Nat):Int))) xs k;rw [w9 _ _ hk];simp only [mK,aw,xt,aA,aF hk,ax,cond_true,aG,List.getElem?_eq_getElem hk,Option.bind_some,aM (show k<4611686018427387904 by omega),aS (show (((xs.take k).filter (fun r=>decide (r.1≤((cY xs:Nat):Int)))).length+1)*40≤lim by unfold lim;omega)]
  by_cases h1:xs[k].1≤((cY xs:Nat):Int)
  ·rw [ak h1];rfl
  ·rw [aq h1,if_neg (by decide),List.append_nil];rfl)
 have l1:aJ mK (xs,[],((cY xs:Nat):Int),(0:Int),())=_:=l1;unfold zh;simp only [a1,Option.bind_some,l1,bZ]
theorem QK (xs:aU) (h:xs.length≤1048576):zr xs=some (xF xs,()):=by
 obtain ⟨_,a1,_⟩:=xC xs h;have l1:=ck (round:=mO) (e:=.inl (xF xs,())) xs.length (fun k=>(((cY xs:Nat):Int),(xs.take k).filter (fun r=>decide (r.1≤((cY xs:Nat):Int))),xs,((xs.length:Nat):Int),((k:Nat):Int),())) (by
  simp only [mO,aw,xx,aA,aN,cond_false,List.take_length];rfl) (fun k hk=>by
  have hb:=zO (fun r:dY=>decide (r.1≤((cY xs:Nat):Int))) xs k;rw [w9 _ _ hk];simp only [mO,aw,xx,aA,aF hk,ax,cond_true,aG,List.getElem?_eq_getElem hk,Option.bind_some,aM (show k<4611686018427387904 by omega),aS (show (((xs.take k).filter (fun r=>decide (r.1≤((cY xs:Nat):Int)))).length+1)*40≤lim by unfold lim;omega)]
  by_cases h1:xs[k].1≤((cY xs:Nat):Int)
  ·rw [ak h1];rfl
  ·rw [aq h1,if_neg (by decide),List.append_nil];rfl)
 have l1:aJ mO (((cY xs:Nat):Int),[],xs,((xs.length:Nat):Int),(0:Int),())=_:=l1;unfold zr;simp only [a1,Option.bind_some,l1,bZ]
noncomputable def iF (xs:List ea) (c:Int) (d:Int×Unit):aU×Unit:=((tR (gR xs c d.1)).2.2.2.1,())
noncomputable def tT (xs:List ea) (c:Int) (ms:dG) (id:Int):aU:=xF (xE ((eZ xs c ms id).map (iF xs c)))
noncomputable def uc (xs:List ea) (c:Int) (ms:dG) (id heard:Int):aU:=
 match gR xs c id with
 |none=>[]
 |some gz=>bif decide (gz.2.2.1=0) then [] else (tT xs c ms id).filter fun r=>decide (heard<r.1)
theorem uP (xs:List ea) (c:Int) (h:jm xs) (d:Int×Unit):(iF xs c d).1.length≤1048576:=by
 have UM:=h.len;unfold iF
 cases hb:gR xs c d.1 with
 |none=>exact Nat.zero_le _
 |some b=>
  obtain ⟨k,hk,rfl⟩:=List.mem_iff_getElem.1 (Fv hb).1;exact h.at hk
theorem Um (bH:Int) (bJ:dG) (xs:List ea) (id heard:Int) (h0:bJ.length≤1048576) (h:jm xs):u0 bH bJ xs id heard=some (uc xs bH bJ id heard,()):=by
 have UM:=h.len;obtain ⟨t1,t2,t3⟩:=sE bH bJ xs id h0 h;have hw:(eZ xs bH bJ id).length≤1048576:=by omega
 have hls:((eZ xs bH bJ id).map (iF xs bH)).length≤1048576:=by rw [List.length_map];exact hw
 have Yh:∀l∈(eZ xs bH bJ id).map (iF xs bH),l.1.length≤1048576:=fun l hl=>by
  obtain ⟨d,_,rfl⟩:=List.mem_map.1 hl;exact uP xs bH h d
 have hu:(xE ((eZ xs bH bJ id).map (iF xs bH))).length≤1048576:=yf (nT _ (out:=[]) si Yh);have hwl:(tT xs bH bJ id).length≤1048576:=Nat.le_trans (List.length_filter_le _ _) hu;unfold u0 uc;rw [sf _ _ _ _ h]
 cases hm:gR xs bH id with
 |none=>rfl
 |some gz=>
  by_cases ho:gz.2.2.1=0
  ·simp only [tR,Option.bind_some,Bool.not_true,cond_false,X6 ho,cond_true]
  simp only [tR,Option.bind_some,Bool.not_true,cond_false,Uf ho,t1,t2];have l1:=ck (round:=ma) (e:=.inl (heard,[],(eZ xs bH bJ id).map (iF xs bH),())) (eZ xs bH bJ id).length (fun k=>(xs,heard,bH,bJ,[],((eZ xs bH bJ id).take k).map (iF xs bH),eZ xs bH bJ id,((k:Nat):Int),())) (by
   simp only [ma,bC,qL,aN,cond_false,List.take_length]) (fun k hk=>by
   simp only [ma,bC,qL,aF hk,ax,cond_true,aG,fZ hk,List.getElem?_eq_getElem hk,Option.bind_some,sf _ _ _ _ h,List.length_map,List.length_take,Nat.min_eq_left (Nat.le_of_lt hk),aS (show (k+1)*24≤lim by unfold lim;omega),aM (show k<4611686018427387904 by omega)];rw [List.take_succ_eq_append_getElem hk,List.map_append];rfl)
  have l1:aJ ma (xs,heard,bH,bJ,[],[],eZ xs bH bJ id,(0:Int),())=_:=l1;have l2:=ck (round:=oc) (e:=.inl ((tT xs bH bJ id).filter (fun r=>decide (heard<r.1)),())) (tT xs bH bJ id).length (fun k=>(heard,((tT xs bH bJ id).take k).filter (fun r=>decide (heard<r.1)),tT xs bH bJ id,((k:Nat):Int),())) (by
   simp only [oc,aw,zk,aA,aN,cond_false,List.take_length]) (fun k hk=>by
   have hb:=zO (fun r:dY=>decide (heard<r.1)) (tT xs bH bJ id) k;rw [w9 _ _ hk];simp only [oc,aw,zk,aA,aF hk,ax,cond_true,aG,fZ hk,List.getElem?_eq_getElem hk,Option.bind_some,aM (show k<4611686018427387904 by omega),aS (show ((((tT xs bH bJ id).take k).filter (fun r=>decide (heard<r.1))).length+1)*40≤lim by unfold lim;omega)]
   by_cases h1:heard<(tT xs bH bJ id)[k].1
   ·rw [ak h1];rfl
   ·rw [aq h1,if_neg (by decide),List.append_nil];rfl)
  have l2:aJ oc (heard,[],xF (xE ((eZ xs bH bJ id).map (iF xs bH))),(0:Int),())=_:=l2;simp only [l1,bZ,Option.bind_some,QH _ hls Yh,QJ _ hu,l2]
theorem Un (bH:Int) (bJ:dG) (xs:List ea) (id heard:Int) (h0:bJ.length≤1048576) (h:jm xs):u5 bH bJ xs id heard=some (uc xs bH bJ id heard,()):=by
 have UM:=h.len;obtain ⟨t1,t2,t3⟩:=sE bH bJ xs id h0 h;have hw:(eZ xs bH bJ id).length≤1048576:=by omega
 have hls:((eZ xs bH bJ id).map (iF xs bH)).length≤1048576:=by rw [List.length_map];exact hw
 have Yh:∀l∈(eZ xs bH bJ id).map (iF xs bH),l.1.length≤1048576:=fun l hl=>by
  obtain ⟨d,_,rfl⟩:=List.mem_map.1 hl;exact uP xs bH h d
 have hu:(xE ((eZ xs bH bJ id).map (iF xs bH))).length≤1048576:=yf (nT _ (out:=[]) si Yh);have hwl:(tT xs bH bJ id).length≤1048576:=Nat.le_trans (List.length_filter_le _ _) hu;unfold u5 uc;rw [wq _ _ _ _ h]
 cases hm:gR xs bH id with
 |none=>rfl
 |some gz=>
  by_cases ho:gz.2.2.1=0
  ·simp only [tR,Option.bind_some,Bool.not_true,cond_false,X6 ho,cond_true]
  simp only [tR,Option.bind_some,Bool.not_true,cond_false,Uf ho,t1,t2];have l1:=ck (round:=oh) (e:=.inl (heard,(eZ xs bH bJ id).map (iF xs bH),())) (eZ xs bH bJ id).length (fun k=>(xs,heard,bH,bJ,((eZ xs bH bJ id).take k).map (iF xs bH),eZ xs bH bJ id,(((eZ xs bH bJ id).length:Nat):Int),((k:Nat):Int),())) (by
   simp only [oh,bC,zt,aN,cond_false,List.take_length]) (fun k hk=>by
   simp only [oh,bC,zt,aF hk,ax,cond_true,aG,fZ hk,List.getElem?_eq_getElem hk,Option.bind_some,wq _ _ _ _ h,List.length_map,List.length_take,Nat.min_eq_left (Nat.le_of_lt hk),aS (show (k+1)*24≤lim by unfold lim;omega),aM (show k<4611686018427387904 by omega)];rw [List.take_succ_eq_append_getElem hk,List.map_append];rfl)
  have l1:aJ oh (xs,heard,bH,bJ,[],eZ xs bH bJ id,(((eZ xs bH bJ id).length:Nat):Int),(0:Int),())=_:=l1;have l2:=ck (round:=om) (e:=.inl ((tT xs bH bJ id).filter (fun r=>decide (heard<r.1)),())) (tT xs bH bJ id).length (fun k=>(heard,((tT xs bH bJ id).take k).filter (fun r=>decide (heard<r.1)),tT xs bH bJ id,(((tT xs bH bJ id).length:Nat):Int),((k:Nat):Int),())) (by
   simp only [om,aw,zu,aA,aN,cond_false,List.take_length]) (fun k hk=>by
   have hb:=zO (fun r:dY=>decide (heard<r.1)) (tT xs bH bJ id) k;rw [w9 _ _ hk];simp only [om,aw,zu,aA,aF hk,ax,cond_true,aG,fZ hk,List.getElem?_eq_getElem hk,Option.bind_some,aM (show k<4611686018427387904 by omega),aS (show ((((tT xs bH bJ id).take k).filter (fun r=>decide (heard<r.1))).length+1)*40≤lim by unfold lim;omega)]
   by_cases h1:heard<(tT xs bH bJ id)[k].1
   ·rw [ak h1];rfl
   ·rw [aq h1,if_neg (by decide),List.append_nil];rfl)
  have l2:aJ om (heard,[],xF (xE ((eZ xs bH bJ id).map (iF xs bH))),(((xF (xE ((eZ xs bH bJ id).map (iF xs bH)))).length:Nat):Int),(0:Int),())=_:=l2;simp only [l1,bZ,Option.bind_some,QI _ hls Yh,QK _ hu,l2]
theorem Uo (bH:Int) (bJ:dG) (xs:List ea) (id heard:Int) (h0:bJ.length≤1048576) (h:jm xs):u0 bH bJ xs id heard=some (uc xs bH bJ id heard,())∧u5 bH bJ xs id heard=some (uc xs bH bJ id heard,()):=⟨Um _ _ _ _ _ h0 h,Un _ _ _ _ _ h0 h⟩
theorem Fy {α:Type} (f:α→Nat) (p:α→Bool):(xs:List α)→wl f (xs.filter p)≤wl f xs
 | []=>Nat.le_refl _
 |x::xs=>by
  have:=Fy f p xs;rw [List.filter_cons]
  split
  ·rw [sq,sq];omega
  ·rw [sq];omega
theorem Up (xs:List ea) (c:Int) (ms:dG) (id:Int) (h:jm xs):(tT xs c ms id).length≤60∧wl dF (tT xs c ms id)≤3600:=by
 have UM:=h.len;have Yh:∀l∈(eZ xs c ms id).map (iF xs c),l.1.length≤1048576:=fun l hl=>by
  obtain ⟨d,_,rfl⟩:=List.mem_map.1 hl;exact uP xs c h d
 have:=dm _ (nT _ (out:=[]) si Yh);unfold tT xF;exact ⟨Nat.le_trans (List.length_filter_le _ _) this.1,Nat.le_trans (Fy _ _ _) this.2⟩
theorem QL (xs:List ea) (c:Int) (ms:dG) (id heard:Int) (h:jm xs):(uc xs c ms id heard).length≤60∧wl dF (uc xs c ms id heard)≤3600:=by
 have UM:=h.len;have:=Up xs c ms id h;unfold uc
 cases gR xs c id with
 |none=>exact ⟨Nat.zero_le _,Nat.zero_le _⟩
 |some gz=>
  show (bif decide (gz.2.2.1=0) then [] else (tT xs c ms id).filter fun r=>decide (heard<r.1)).length≤60∧wl dF (bif decide (gz.2.2.1=0) then [] else (tT xs c ms id).filter fun r=>decide (heard<r.1))≤3600
  cases decide (gz.2.2.1=0)
  ·exact ⟨Nat.le_trans (List.length_filter_le _ _) this.1,Nat.le_trans (Fy _ _ _) this.2⟩
  ·exact ⟨Nat.zero_le _,Nat.zero_le _⟩
end Go.TM
set_option linter.unusedSimpArgs false
set_option linter.unusedVariables false
namespace Go.TM
open Go
noncomputable def lH (c:Int) (ms:List (Int×Unit)) (xs:List ea):Bool:=ms.all fun m=>(gR xs c m.1).isSome
theorem Yi (b:ea) (c id:Int) (ms:List (Int×Unit)) (h:b.2.2.2.1.length≤1048576):wj b.1 b.2.1 b.2.2.1 b.2.2.2.1 [(id,())] [(c,ms,())]=some (decide (b.1=id)&&(decide (b.2.1=c)&&p7 b),()):=by
 unfold wj;have h1:=(se b h).2;simp only [List.getElem?_cons_zero,Option.bind_some,h1]
 cases decide (b.1=id)
 ·rfl
 cases decide (b.2.1=c)
 ·rfl
 ·rfl
theorem QM (xs:List ea) (c id:Int) (ms:List (Int×Unit)) (h:jm xs):gU xs [([(id,())],[(c,ms,())],())]=some ((gR xs c id).isSome,()):=by
 have UM:=h.len;obtain ⟨e,he,hq⟩:=dt (round:=dX) (x:=(xs,[([(id,())],[(c,ms,())],())],((List.length xs:Nat):Int),((0:Nat):Int),())) xs.length
  (fun k x=>x=(xs,[([(id,())],[(c,ms,())],())],((List.length xs:Nat):Int),((k:Nat):Int),())∧gR xs c id=gR (xs.drop k) c id)
  (fun e=>(e=.inl ()∧gR xs c id=none)∨(∃j:Nat,e=.inr (((j:Nat):Int),())∧(gR xs c id).isSome=true)) (by
   rintro x ⟨rfl,g⟩
   refine ⟨.inl (),by simp only [dX,aw,gT,aw,aN,cond_false],.inl ⟨rfl,?_⟩⟩;rw [g,List.drop_length];rfl) (by
   rintro k x hk ⟨rfl,g⟩
   rw [IP xs c id hk] at g;have h1:=Yi xs[k] c id ms (h.at hk);simp only [dX,aw,gT,aw,aF hk,ax,cond_true,aG,List.getElem?_eq_getElem hk,List.getElem?_cons_zero,Option.bind_some,h1,aM (show k<4611686018427387904 by omega)]
   cases hb:(decide (xs[k].1=id)&&(decide (xs[k].2.1=c)&&p7 xs[k]))
   ·rw [hb] at g;exact .inr ⟨_,rfl,rfl,g⟩
   ·rw [hb] at g;exact .inl ⟨_,rfl,.inr ⟨k,rfl,by rw [g];rfl⟩⟩) ⟨rfl,rfl⟩
 have he:aJ dX (xs,[([(id,())],[(c,ms,())],())],((List.length xs:Nat):Int),(0:Int),())=some e:=he;unfold gU mC;rw [he];rcases hq with ⟨rfl,q⟩ | ⟨j,rfl,q⟩
 ·rw [q];rfl
 ·rw [q];simp only [VX,Option.bind_some,ax]
theorem Ek (c:Int) (ms:List (Int×Unit)) (xs:List ea) (h0:ms.length≤1048576) (h:jm xs):kE c ms xs=some (lH c ms xs,())∧uN c ms xs=some (lH c ms xs,()):=by
 have UM:=h.len;have OH:∀ {k:Nat} (hk:k<ms.length),lH c (ms.drop k) xs=((gR xs c ms[k].1).isSome&&lH c (ms.drop (k+1)) xs):=fun hk=>by
  unfold lH;rw [List.drop_eq_getElem_cons hk,List.all_cons]
 have fin:∀ {e:Sum Unit (Bool×Unit)} {b:Bool},((e=.inl ()∧b=true)∨(e=.inr (false,())∧b=false))→bZ (some e) (fun _=>some (true,())) (fun y=>some (y.1,()))=some (b,()):=by
  rintro e b (⟨rfl,rfl⟩ | ⟨rfl,rfl⟩)
  ·rfl
  ·rfl
 constructor
 ·obtain ⟨e,he,hq⟩:=dt (round:=iY) (x:=(xs,c,ms,((0:Nat):Int),())) ms.length
   (fun k x=>x=(xs,c,ms,((k:Nat):Int),())∧lH c ms xs=lH c (ms.drop k) xs)
   (fun e=>(e=.inl ()∧lH c ms xs=true)∨(e=.inr (false,())∧lH c ms xs=false)) (by
    rintro x ⟨rfl,g⟩
    refine ⟨.inl (),by simp only [iY,aw,mw,aN,cond_false],.inl ⟨rfl,?_⟩⟩;rw [g,List.drop_length];rfl) (by
    rintro k x hk ⟨rfl,g⟩
    rw [OH hk] at g;simp only [iY,aw,mw,aF hk,ax,cond_true,aG,List.getElem?_eq_getElem hk,Option.bind_some,sf c ms xs _ h,aM (show k<4611686018427387904 by omega)]
    cases hb:gR xs c ms[k].1 with
    |none=>
     rw [hb] at g;exact .inl ⟨_,rfl,.inr ⟨rfl,g⟩⟩
    |some b=>
     rw [hb] at g;exact .inr ⟨_,rfl,rfl,g⟩) ⟨rfl,rfl⟩
  have he:aJ iY (xs,c,ms,(0:Int),())=some e:=he;unfold kE;rw [he];exact fin hq
 ·obtain ⟨e,he,hq⟩:=dt (round:=mD) (x:=(xs,[(c,ms,())],ms,((List.length ms:Nat):Int),((0:Nat):Int),())) ms.length
   (fun k x=>x=(xs,[(c,ms,())],ms,((List.length ms:Nat):Int),((k:Nat):Int),())∧lH c ms xs=lH c (ms.drop k) xs)
   (fun e=>(e=.inl ()∧lH c ms xs=true)∨(e=.inr (false,())∧lH c ms xs=false)) (by
    rintro x ⟨rfl,g⟩
    refine ⟨.inl (),by simp only [mD,aw,tP,aN,cond_false],.inl ⟨rfl,?_⟩⟩;rw [g,List.drop_length];rfl) (by
    rintro k x hk ⟨rfl,g⟩
    rw [OH hk] at g;simp only [mD,aw,tP,aF hk,ax,cond_true,aG,List.getElem?_eq_getElem hk,Option.bind_some,QM xs c _ ms h,aM (show k<4611686018427387904 by omega)]
    cases hb:(gR xs c ms[k].1).isSome
    ·rw [hb] at g;exact .inl ⟨_,rfl,.inr ⟨rfl,g⟩⟩
    ·rw [hb] at g;exact .inr ⟨_,rfl,rfl,g⟩) ⟨rfl,rfl⟩
  have he:aJ mD (xs,[(c,ms,())],ms,((List.length ms:Nat):Int),(0:Int),())=some e:=he;unfold uN;rw [he];exact fin hq
end Go.TM
set_option linter.unusedSimpArgs false
set_option linter.unusedVariables false
namespace Go.TM
open Go
def aai:iG:=(0,0,[],[],[],[],0,0,0,0,0,0,0,0,0,[],())
def Gj (m:iG) (level:Int) (text:ByteArray):iG:=(m.1,m.2.1,m.2.2.1,m.2.2.2.1,m.2.2.2.2.1++[(level,())],m.2.2.2.2.2.1++[(text,())],m.2.2.2.2.2.2)
noncomputable def QN (m:iG) (level:Int) (text:ByteArray):Bool:=sW m&&((decide (1≤level)&&decide (level≤2))&&(decide (ByteArray.size text≤60)&&decide (m.2.2.2.2.2.1.length<20)))
noncomputable def ez (m:iG) (level:Int) (text:ByteArray):iG×Bool:=bif QN m level text then (Gj m level text,true) else (aai,false)
theorem Yj (m:iG) (level:Int) (text:ByteArray) (h:mg m≤1048576):AM m.1 m.2.1 m.2.2.1 m.2.2.2.1 m.2.2.2.2.1 m.2.2.2.2.2.1 m.2.2.2.2.2.2.1 m.2.2.2.2.2.2.2.1 m.2.2.2.2.2.2.2.2.1 m.2.2.2.2.2.2.2.2.2.1 m.2.2.2.2.2.2.2.2.2.2.1 m.2.2.2.2.2.2.2.2.2.2.2.1 m.2.2.2.2.2.2.2.2.2.2.2.2.1 m.2.2.2.2.2.2.2.2.2.2.2.2.2.1 m.2.2.2.2.2.2.2.2.2.2.2.2.2.2.1 m.2.2.2.2.2.2.2.2.2.2.2.2.2.2.2.1 level text=some ((ez m level text).1.1,(ez m level text).1.2.1,(ez m level text).1.2.2.1,(ez m level text).1.2.2.2.1,(ez m level text).1.2.2.2.2.1,(ez m level text).1.2.2.2.2.2.1,(ez m level text).1.2.2.2.2.2.2.1,(ez m level text).1.2.2.2.2.2.2.2.1,(ez m level text).1.2.2.2.2.2.2.2.2.1,(ez m level text).1.2.2.2.2.2.2.2.2.2.1,(ez m level text).1.2.2.2.2.2.2.2.2.2.2.1,(ez m level text).1.2.2.2.2.2.2.2.2.2.2.2.1,(ez m level text).1.2.2.2.2.2.2.2.2.2.2.2.2.1,(ez m level text).1.2.2.2.2.2.2.2.2.2.2.2.2.2.1,(ez m level text).1.2.2.2.2.2.2.2.2.2.2.2.2.2.2.1,(ez m level text).1.2.2.2.2.2.2.2.2.2.2.2.2.2.2.2.1,(ez m level text).2,())∧Bm m.1 m.2.1 m.2.2.1 m.2.2.2.1 m.2.2.2.2.1 m.2.2.2.2.2.1 m.2.2.2.2.2.2.1 m.2.2.2.2.2.2.2.1 m.2.2.2.2.2.2.2.2.1 m.2.2.2.2.2.2.2.2.2.1 m.2.2.2.2.2.2.2.2.2.2.1 m.2.2.2.2.2.2.2.2.2.2.2.1 m.2.2.2.2.2.2.2.2.2.2.2.2.1 m.2.2.2.2.2.2.2.2.2.2.2.2.2.1 m.2.2.2.2.2.2.2.2.2.2.2.2.2.2.1 m.2.2.2.2.2.2.2.2.2.2.2.2.2.2.2.1 level text=some ((ez m level text).1.1,(ez m level text).1.2.1,(ez m level text).1.2.2.1,(ez m level text).1.2.2.2.1,(ez m level text).1.2.2.2.2.1,(ez m level text).1.2.2.2.2.2.1,(ez m level text).1.2.2.2.2.2.2.1,(ez m level text).1.2.2.2.2.2.2.2.1,(ez m level text).1.2.2.2.2.2.2.2.2.1,(ez m level text).1.2.2.2.2.2.2.2.2.2.1,(ez m level text).1.2.2.2.2.2.2.2.2.2.2.1,(ez m level text).1.2.2.2.2.2.2.2.2.2.2.2.1,(ez m level text).1.2.2.2.2.2.2.2.2.2.2.2.2.1,(ez m level text).1.2.2.2.2.2.2.2.2.2.2.2.2.2.1,(ez m level text).1.2.2.2.2.2.2.2.2.2.2.2.2.2.2.1,(ez m level text).1.2.2.2.2.2.2.2.2.2.2.2.2.2.2.2.1,(ez m level text).2,()):=by
 obtain ⟨k1,k2,k3⟩:=qX m h;obtain ⟨p1,p2⟩:=nR m.1 m.2.1 m.2.2.1 m.2.2.2.1 m.2.2.2.2.1 m.2.2.2.2.2.1 m.2.2.2.2.2.2.1 m.2.2.2.2.2.2.2.1 m.2.2.2.2.2.2.2.2.1 m.2.2.2.2.2.2.2.2.2.1 m.2.2.2.2.2.2.2.2.2.2.1 m.2.2.2.2.2.2.2.2.2.2.2.1 m.2.2.2.2.2.2.2.2.2.2.2.2.1 m.2.2.2.2.2.2.2.2.2.2.2.2.2.1 m.2.2.2.2.2.2.2.2.2.2.2.2.2.2.1 m.2.2.2.2.2.2.2.2.2.2.2.2.2.2.2.1 h;unfold AM Bm ez QN;delta aA eC;simp only [k1,k2,p1,p2,mE,Ef,Option.bind_some]
 cases hb:sW m
 ·cases (decide (1≤level)&&decide (level≤2))
  ·exact ⟨rfl,rfl⟩
  cases decide ((60:Int)<((ByteArray.size text:Nat):Int))
  ·cases decide ((20:Int)≤((List.length m.2.2.2.2.2.1:Nat):Int))
   ·exact ⟨rfl,rfl⟩
   ·exact ⟨rfl,rfl⟩
  ·exact ⟨rfl,rfl⟩
 have hs:=(k3.1 hb).small;unfold mg at hs
 cases (decide (1≤level)&&decide (level≤2))
 ·exact ⟨rfl,rfl⟩
 by_cases w1:ByteArray.size text≤60
 case neg=>rw [aq w1,ak (show (60:Int)<((ByteArray.size text:Nat):Int) by omega)];exact ⟨rfl,rfl⟩
 by_cases w2:m.2.2.2.2.2.1.length<20
 case neg=>rw [ak w1,aq w2,aq (show ¬(60:Int)<((ByteArray.size text:Nat):Int) by omega),ak (show (20:Int)≤((List.length m.2.2.2.2.2.1:Nat):Int) by omega)];exact ⟨rfl,rfl⟩
 rw [ak w1,ak w2,aq (show ¬(60:Int)<((ByteArray.size text:Nat):Int) by omega),aq (show ¬(20:Int)≤((List.length m.2.2.2.2.2.1:Nat):Int) by omega)];simp only [Bool.not_true,cond_false,aS (show (m.2.2.2.2.1.length+1)*8≤lim by unfold lim;omega),aS (show (m.2.2.2.2.2.1.length+1)*16≤lim by unfold lim;omega),cond_true,Bool.and_true];exact ⟨rfl,rfl⟩
theorem mQ (c:Int) (xs:dG) (h:xs.length≤1048576):bM c xs=some (c,xs,()):=by
 unfold bM;rw [lF _ h];rfl
end Go.TM
set_option linter.unusedSimpArgs false
set_option linter.unusedVariables false
namespace Go.TM
open Go
theorem jn (b:ea) (h:b.2.2.2.1.length≤1048576):fU b.1 b.2.1 b.2.2.1 b.2.2.2.1=some b∧kn b.1 b.2.1 b.2.2.1 b.2.2.2.1=some b:=by
 constructor
 ·unfold fU;rw [aS (show (0+b.2.2.2.1.length)*40≤lim by unfold lim;omega)];rfl
 ·unfold kn;rw [w8 _ h];rfl
theorem Fz (xs:List ea) (h:xs.length+wl ed xs≤1048576):gD xs=some (xs,()):=by
 have hl:=ck (round:=cO) (e:=.inl (xs,())) xs.length (fun k=>(xs,xs.take k,((k:Nat):Int),())) (by
  simp only [cO,gu,aw,aA,aN,cond_false,List.take_length]) (fun k hk=>by
  simp only [cO,gu,aw,aA,aF hk,ax,cond_true,aG,List.getElem?_eq_getElem hk,Option.bind_some,(jn xs[k] (Eh xs hk h)).1,List.length_take,Nat.min_eq_left (Nat.le_of_lt hk),aS (show (k+1)*48≤lim by unfold lim;omega),aM (show k<4611686018427387904 by omega)];rw [List.take_succ_eq_append_getElem hk])
 have hl:aJ cO (xs,[],(0:Int),())=_:=hl;unfold gD;rw [hl];rfl
theorem FA (xs:List ea) (h:xs.length+wl ed xs≤1048576):oe xs=some (xs,()):=by
 have hl:=ck (round:=gF) (e:=.inl (xs,())) xs.length (fun k=>(xs.take k,xs,((xs.length:Nat):Int),((k:Nat):Int),())) (by
  simp only [gF,aw,oU,aw,aA,aN,cond_false,List.take_length]) (fun k hk=>by
  simp only [gF,aw,oU,aw,aA,aF hk,ax,cond_true,aG,List.getElem?_eq_getElem hk,Option.bind_some,(jn xs[k] (Eh xs hk h)).2,List.length_take,Nat.min_eq_left (Nat.le_of_lt hk),aS (show (k+1)*48≤lim by unfold lim;omega),aM (show k<4611686018427387904 by omega)];rw [List.take_succ_eq_append_getElem hk])
 have hl:aJ gF ([],xs,((xs.length:Nat):Int),(0:Int),())=_:=hl;unfold oe;rw [hl];rfl
theorem uQ (d:bY) (h:ow d≤1048576):cq d.1 d.2.1 d.2.2.1 d.2.2.2.1 d.2.2.2.2.1 d.2.2.2.2.2.1 d.2.2.2.2.2.2.1 d.2.2.2.2.2.2.2.1 d.2.2.2.2.2.2.2.2.1 d.2.2.2.2.2.2.2.2.2.1 d.2.2.2.2.2.2.2.2.2.2.1 d.2.2.2.2.2.2.2.2.2.2.2.1 d.2.2.2.2.2.2.2.2.2.2.2.2.1 d.2.2.2.2.2.2.2.2.2.2.2.2.2.1 d.2.2.2.2.2.2.2.2.2.2.2.2.2.2.1 d.2.2.2.2.2.2.2.2.2.2.2.2.2.2.2.1 d.2.2.2.2.2.2.2.2.2.2.2.2.2.2.2.2.1 d.2.2.2.2.2.2.2.2.2.2.2.2.2.2.2.2.2.1 d.2.2.2.2.2.2.2.2.2.2.2.2.2.2.2.2.2.2.1 d.2.2.2.2.2.2.2.2.2.2.2.2.2.2.2.2.2.2.2.1 d.2.2.2.2.2.2.2.2.2.2.2.2.2.2.2.2.2.2.2.2.1 d.2.2.2.2.2.2.2.2.2.2.2.2.2.2.2.2.2.2.2.2.2.1 d.2.2.2.2.2.2.2.2.2.2.2.2.2.2.2.2.2.2.2.2.2.2.1 d.2.2.2.2.2.2.2.2.2.2.2.2.2.2.2.2.2.2.2.2.2.2.2.1=some d∧ee d.1 d.2.1 d.2.2.1 d.2.2.2.1 d.2.2.2.2.1 d.2.2.2.2.2.1 d.2.2.2.2.2.2.1 d.2.2.2.2.2.2.2.1 d.2.2.2.2.2.2.2.2.1 d.2.2.2.2.2.2.2.2.2.1 d.2.2.2.2.2.2.2.2.2.2.1 d.2.2.2.2.2.2.2.2.2.2.2.1 d.2.2.2.2.2.2.2.2.2.2.2.2.1 d.2.2.2.2.2.2.2.2.2.2.2.2.2.1 d.2.2.2.2.2.2.2.2.2.2.2.2.2.2.1 d.2.2.2.2.2.2.2.2.2.2.2.2.2.2.2.1 d.2.2.2.2.2.2.2.2.2.2.2.2.2.2.2.2.1 d.2.2.2.2.2.2.2.2.2.2.2.2.2.2.2.2.2.1 d.2.2.2.2.2.2.2.2.2.2.2.2.2.2.2.2.2.2.1 d.2.2.2.2.2.2.2.2.2.2.2.2.2.2.2.2.2.2.2.1 d.2.2.2.2.2.2.2.2.2.2.2.2.2.2.2.2.2.2.2.2.1 d.2.2.2.2.2.2.2.2.2.2.2.2.2.2.2.2.2.2.2.2.2.1 d.2.2.2.2.2.2.2.2.2.2.2.2.2.2.2.2.2.2.2.2.2.2.1 d.2.2.2.2.2.2.2.2.2.2.2.2.2.2.2.2.2.2.2.2.2.2.2.1=some d:=by
 have h0:=h;unfold ow at h0;have p:gr d.2.2.1 d.2.2.2.1 d.2.2.2.2.1 d.2.2.2.2.2.1 d.2.2.2.2.2.2.1 d.2.2.2.2.2.2.2.1 d.2.2.2.2.2.2.2.2.1 d.2.2.2.2.2.2.2.2.2.1 d.2.2.2.2.2.2.2.2.2.2.1 d.2.2.2.2.2.2.2.2.2.2.2.1 d.2.2.2.2.2.2.2.2.2.2.2.2.1 d.2.2.2.2.2.2.2.2.2.2.2.2.2.1 d.2.2.2.2.2.2.2.2.2.2.2.2.2.2.1 d.2.2.2.2.2.2.2.2.2.2.2.2.2.2.2.1 d.2.2.2.2.2.2.2.2.2.2.2.2.2.2.2.2.1 d.2.2.2.2.2.2.2.2.2.2.2.2.2.2.2.2.2.1=some (d.2.2.1,d.2.2.2.1,d.2.2.2.2.1,d.2.2.2.2.2.1,d.2.2.2.2.2.2.1,d.2.2.2.2.2.2.2.1,d.2.2.2.2.2.2.2.2.1,d.2.2.2.2.2.2.2.2.2.1,d.2.2.2.2.2.2.2.2.2.2.1,d.2.2.2.2.2.2.2.2.2.2.2.1,d.2.2.2.2.2.2.2.2.2.2.2.2.1,d.2.2.2.2.2.2.2.2.2.2.2.2.2.1,d.2.2.2.2.2.2.2.2.2.2.2.2.2.2.1,d.2.2.2.2.2.2.2.2.2.2.2.2.2.2.2.1,d.2.2.2.2.2.2.2.2.2.2.2.2.2.2.2.2.1,d.2.2.2.2.2.2.2.2.2.2.2.2.2.2.2.2.2.1,())∧fL d.2.2.1 d.2.2.2.1 d.2.2.2.2.1 d.2.2.2.2.2.1 d.2.2.2.2.2.2.1 d.2.2.2.2.2.2.2.1 d.2.2.2.2.2.2.2.2.1 d.2.2.2.2.2.2.2.2.2.1 d.2.2.2.2.2.2.2.2.2.2.1 d.2.2.2.2.2.2.2.2.2.2.2.1 d.2.2.2.2.2.2.2.2.2.2.2.2.1 d.2.2.2.2.2.2.2.2.2.2.2.2.2.1 d.2.2.2.2.2.2.2.2.2.2.2.2.2.2.1 d.2.2.2.2.2.2.2.2.2.2.2.2.2.2.2.1 d.2.2.2.2.2.2.2.2.2.2.2.2.2.2.2.2.1 d.2.2.2.2.2.2.2.2.2.2.2.2.2.2.2.2.2.1=some (d.2.2.1,d.2.2.2.1,d.2.2.2.2.1,d.2.2.2.2.2.1,d.2.2.2.2.2.2.1,d.2.2.2.2.2.2.2.1,d.2.2.2.2.2.2.2.2.1,d.2.2.2.2.2.2.2.2.2.1,d.2.2.2.2.2.2.2.2.2.2.1,d.2.2.2.2.2.2.2.2.2.2.2.1,d.2.2.2.2.2.2.2.2.2.2.2.2.1,d.2.2.2.2.2.2.2.2.2.2.2.2.2.1,d.2.2.2.2.2.2.2.2.2.2.2.2.2.2.1,d.2.2.2.2.2.2.2.2.2.2.2.2.2.2.2.1,d.2.2.2.2.2.2.2.2.2.2.2.2.2.2.2.2.1,d.2.2.2.2.2.2.2.2.2.2.2.2.2.2.2.2.2.1,()):=nR d.2.2.1 d.2.2.2.1 d.2.2.2.2.1 d.2.2.2.2.2.1 d.2.2.2.2.2.2.1 d.2.2.2.2.2.2.2.1 d.2.2.2.2.2.2.2.2.1 d.2.2.2.2.2.2.2.2.2.1 d.2.2.2.2.2.2.2.2.2.2.1 d.2.2.2.2.2.2.2.2.2.2.2.1 d.2.2.2.2.2.2.2.2.2.2.2.2.1 d.2.2.2.2.2.2.2.2.2.2.2.2.2.1 d.2.2.2.2.2.2.2.2.2.2.2.2.2.2.1 d.2.2.2.2.2.2.2.2.2.2.2.2.2.2.2.1 d.2.2.2.2.2.2.2.2.2.2.2.2.2.2.2.2.1 d.2.2.2.2.2.2.2.2.2.2.2.2.2.2.2.2.2.1 (by omega)
 constructor
 ·unfold cq;delta cS;simp only [p.1,Fz d.2.2.2.2.2.2.2.2.2.2.2.2.2.2.2.2.2.2.2.2.2.2.1 (by omega),tQ d.2.2.2.2.2.2.2.2.2.2.2.2.2.2.2.2.2.2.2.2.2.2.2.1 (by omega),Option.bind_some,aS (show (0+(d.2.2.2.2.2.2.2.2.2.2.2.2.2.2.2.2.2.2.2.2.2.1).length)*8≤lim by unfold lim;omega),cond_true,List.nil_append]
 ·unfold ee;delta cS;simp only [p.2,FA d.2.2.2.2.2.2.2.2.2.2.2.2.2.2.2.2.2.2.2.2.2.2.1 (by omega),GJ d.2.2.2.2.2.2.2.2.2.2.2.2.2.2.2.2.2.2.2.2.2.2.2.1 (by omega),mQ d.2.2.2.2.2.2.2.2.2.2.2.2.2.2.2.2.2.2.2.2.1 d.2.2.2.2.2.2.2.2.2.2.2.2.2.2.2.2.2.2.2.2.2.1 (by omega),Option.bind_some]
def BP:bY:=(0,false,0,0,[],[],[],[],0,0,0,0,0,0,0,0,0,[],0,0,0,[],[],[],())
def al4 (d:bY):bY:=(d.1,false,d.2.2)
noncomputable def jo (d:bY):bY×Bool:=bif jU d&&d.2.1 then (al4 d,true) else (BP,false)
def fA (d:bY) (m:iG):bY:=(d.1,d.2.1,m.1,m.2.1,m.2.2.1,m.2.2.2.1,m.2.2.2.2.1,m.2.2.2.2.2.1,m.2.2.2.2.2.2.1,m.2.2.2.2.2.2.2.1,m.2.2.2.2.2.2.2.2.1,m.2.2.2.2.2.2.2.2.2.1,m.2.2.2.2.2.2.2.2.2.2.1,m.2.2.2.2.2.2.2.2.2.2.2.1,m.2.2.2.2.2.2.2.2.2.2.2.2.1,m.2.2.2.2.2.2.2.2.2.2.2.2.2.1,m.2.2.2.2.2.2.2.2.2.2.2.2.2.2.1,m.2.2.2.2.2.2.2.2.2.2.2.2.2.2.2.1,d.2.2.2.2.2.2.2.2.2.2.2.2.2.2.2.2.2.2.1,d.2.2.2.2.2.2.2.2.2.2.2.2.2.2.2.2.2.2.2.1,d.2.2.2.2.2.2.2.2.2.2.2.2.2.2.2.2.2.2.2.2.1,d.2.2.2.2.2.2.2.2.2.2.2.2.2.2.2.2.2.2.2.2.2.1,d.2.2.2.2.2.2.2.2.2.2.2.2.2.2.2.2.2.2.2.2.2.2.1,d.2.2.2.2.2.2.2.2.2.2.2.2.2.2.2.2.2.2.2.2.2.2.2.1,())
noncomputable def bK (d:bY) (level:Int) (text:ByteArray):bY×Bool:=
 bif jU d&&(!d.2.1&&(!decide (d.2.2.2.2.2.2.2.2.2.2.2.2.2.2.2.2.2.2.2.1=0)&&(ez (aE d) level text).2)) then (fA d (ez (aE d) level text).1,true) else (BP,false)
theorem Sb (d:bY):mg (aE d)≤ow d:=by
 unfold ow;show (List.length d.2.2.2.2.1+wl jR d.2.2.2.2.1)+(List.length d.2.2.2.2.2.1+wl dF d.2.2.2.2.2.1)+(List.length d.2.2.2.2.2.2.1+wl jR d.2.2.2.2.2.2.1)+(List.length d.2.2.2.2.2.2.2.1+wl JK d.2.2.2.2.2.2.2.1)+(List.length d.2.2.2.2.2.2.2.2.2.2.2.2.2.2.2.2.2.1+wl jR d.2.2.2.2.2.2.2.2.2.2.2.2.2.2.2.2.2.1)≤_;omega
theorem Gk (d:bY) (level:Int) (text:ByteArray) (h:ow d≤1048576):qw d.1 d.2.1 d.2.2.1 d.2.2.2.1 d.2.2.2.2.1 d.2.2.2.2.2.1 d.2.2.2.2.2.2.1 d.2.2.2.2.2.2.2.1 d.2.2.2.2.2.2.2.2.1 d.2.2.2.2.2.2.2.2.2.1 d.2.2.2.2.2.2.2.2.2.2.1 d.2.2.2.2.2.2.2.2.2.2.2.1 d.2.2.2.2.2.2.2.2.2.2.2.2.1 d.2.2.2.2.2.2.2.2.2.2.2.2.2.1 d.2.2.2.2.2.2.2.2.2.2.2.2.2.2.1 d.2.2.2.2.2.2.2.2.2.2.2.2.2.2.2.1 d.2.2.2.2.2.2.2.2.2.2.2.2.2.2.2.2.1 d.2.2.2.2.2.2.2.2.2.2.2.2.2.2.2.2.2.1 d.2.2.2.2.2.2.2.2.2.2.2.2.2.2.2.2.2.2.1 d.2.2.2.2.2.2.2.2.2.2.2.2.2.2.2.2.2.2.2.1 d.2.2.2.2.2.2.2.2.2.2.2.2.2.2.2.2.2.2.2.2.1 d.2.2.2.2.2.2.2.2.2.2.2.2.2.2.2.2.2.2.2.2.2.1 d.2.2.2.2.2.2.2.2.2.2.2.2.2.2.2.2.2.2.2.2.2.2.1 d.2.2.2.2.2.2.2.2.2.2.2.2.2.2.2.2.2.2.2.2.2.2.2.1 level text=some ((bK d level text).1.1,(bK d level text).1.2.1,(bK d level text).1.2.2.1,(bK d level text).1.2.2.2.1,(bK d level text).1.2.2.2.2.1,(bK d level text).1.2.2.2.2.2.1,(bK d level text).1.2.2.2.2.2.2.1,(bK d level text).1.2.2.2.2.2.2.2.1,(bK d level text).1.2.2.2.2.2.2.2.2.1,(bK d level text).1.2.2.2.2.2.2.2.2.2.1,(bK d level text).1.2.2.2.2.2.2.2.2.2.2.1,(bK d level text).1.2.2.2.2.2.2.2.2.2.2.2.1,(bK d level text).1.2.2.2.2.2.2.2.2.2.2.2.2.1,(bK d level text).1.2.2.2.2.2.2.2.2.2.2.2.2.2.1,(bK d level text).1.2.2.2.2.2.2.2.2.2.2.2.2.2.2.1,(bK d level text).1.2.2.2.2.2.2.2.2.2.2.2.2.2.2.2.1,(bK d level text).1.2.2.2.2.2.2.2.2.2.2.2.2.2.2.2.2.1,(bK d level text).1.2.2.2.2.2.2.2.2.2.2.2.2.2.2.2.2.2.1,(bK d level text).1.2.2.2.2.2.2.2.2.2.2.2.2.2.2.2.2.2.2.1,(bK d level text).1.2.2.2.2.2.2.2.2.2.2.2.2.2.2.2.2.2.2.2.1,(bK d level text).1.2.2.2.2.2.2.2.2.2.2.2.2.2.2.2.2.2.2.2.2.1,(bK d level text).1.2.2.2.2.2.2.2.2.2.2.2.2.2.2.2.2.2.2.2.2.2.1,(bK d level text).1.2.2.2.2.2.2.2.2.2.2.2.2.2.2.2.2.2.2.2.2.2.2.1,(bK d level text).1.2.2.2.2.2.2.2.2.2.2.2.2.2.2.2.2.2.2.2.2.2.2.2.1,(bK d level text).2,())∧nP d.1 d.2.1 d.2.2.1 d.2.2.2.1 d.2.2.2.2.1 d.2.2.2.2.2.1 d.2.2.2.2.2.2.1 d.2.2.2.2.2.2.2.1 d.2.2.2.2.2.2.2.2.1 d.2.2.2.2.2.2.2.2.2.1 d.2.2.2.2.2.2.2.2.2.2.1 d.2.2.2.2.2.2.2.2.2.2.2.1 d.2.2.2.2.2.2.2.2.2.2.2.2.1 d.2.2.2.2.2.2.2.2.2.2.2.2.2.1 d.2.2.2.2.2.2.2.2.2.2.2.2.2.2.1 d.2.2.2.2.2.2.2.2.2.2.2.2.2.2.2.1 d.2.2.2.2.2.2.2.2.2.2.2.2.2.2.2.2.1 d.2.2.2.2.2.2.2.2.2.2.2.2.2.2.2.2.2.1 d.2.2.2.2.2.2.2.2.2.2.2.2.2.2.2.2.2.2.1 d.2.2.2.2.2.2.2.2.2.2.2.2.2.2.2.2.2.2.2.1 d.2.2.2.2.2.2.2.2.2.2.2.2.2.2.2.2.2.2.2.2.1 d.2.2.2.2.2.2.2.2.2.2.2.2.2.2.2.2.2.2.2.2.2.1 d.2.2.2.2.2.2.2.2.2.2.2.2.2.2.2.2.2.2.2.2.2.2.1 d.2.2.2.2.2.2.2.2.2.2.2.2.2.2.2.2.2.2.2.2.2.2.2.1 level text=some ((bK d level text).1.1,(bK d level text).1.2.1,(bK d level text).1.2.2.1,(bK d level text).1.2.2.2.1,(bK d level text).1.2.2.2.2.1,(bK d level text).1.2.2.2.2.2.1,(bK d level text).1.2.2.2.2.2.2.1,(bK d level text).1.2.2.2.2.2.2.2.1,(bK d level text).1.2.2.2.2.2.2.2.2.1,(bK d level text).1.2.2.2.2.2.2.2.2.2.1,(bK d level text).1.2.2.2.2.2.2.2.2.2.2.1,(bK d level text).1.2.2.2.2.2.2.2.2.2.2.2.1,(bK d level text).1.2.2.2.2.2.2.2.2.2.2.2.2.1,(bK d level text).1.2.2.2.2.2.2.2.2.2.2.2.2.2.1,(bK d level text).1.2.2.2.2.2.2.2.2.2.2.2.2.2.2.1,(bK d level text).1.2.2.2.2.2.2.2.2.2.2.2.2.2.2.2.1,(bK d level text).1.2.2.2.2.2.2.2.2.2.2.2.2.2.2.2.2.1,(bK d level text).1.2.2.2.2.2.2.2.2.2.2.2.2.2.2.2.2.2.1,(bK d level text).1.2.2.2.2.2.2.2.2.2.2.2.2.2.2.2.2.2.2.1,(bK d level text).1.2.2.2.2.2.2.2.2.2.2.2.2.2.2.2.2.2.2.2.1,(bK d level text).1.2.2.2.2.2.2.2.2.2.2.2.2.2.2.2.2.2.2.2.2.1,(bK d level text).1.2.2.2.2.2.2.2.2.2.2.2.2.2.2.2.2.2.2.2.2.2.1,(bK d level text).1.2.2.2.2.2.2.2.2.2.2.2.2.2.2.2.2.2.2.2.2.2.2.1,(bK d level text).1.2.2.2.2.2.2.2.2.2.2.2.2.2.2.2.2.2.2.2.2.2.2.2.1,(bK d level text).2,()):=by
 obtain ⟨k1,k2,_⟩:=m7 d h;obtain ⟨p1,p2⟩:=uQ d h;have s:AM d.2.2.1 d.2.2.2.1 d.2.2.2.2.1 d.2.2.2.2.2.1 d.2.2.2.2.2.2.1 d.2.2.2.2.2.2.2.1 d.2.2.2.2.2.2.2.2.1 d.2.2.2.2.2.2.2.2.2.1 d.2.2.2.2.2.2.2.2.2.2.1 d.2.2.2.2.2.2.2.2.2.2.2.1 d.2.2.2.2.2.2.2.2.2.2.2.2.1 d.2.2.2.2.2.2.2.2.2.2.2.2.2.1 d.2.2.2.2.2.2.2.2.2.2.2.2.2.2.1 d.2.2.2.2.2.2.2.2.2.2.2.2.2.2.2.1 d.2.2.2.2.2.2.2.2.2.2.2.2.2.2.2.2.1 d.2.2.2.2.2.2.2.2.2.2.2.2.2.2.2.2.2.1 level text=some ((ez (aE d) level text).1.1,(ez (aE d) level text).1.2.1,(ez (aE d) level text).1.2.2.1,(ez (aE d) level text).1.2.2.2.1,(ez (aE d) level text).1.2.2.2.2.1,(ez (aE d) level text).1.2.2.2.2.2.1,(ez (aE d) level text).1.2.2.2.2.2.2.1,(ez (aE d) level text).1.2.2.2.2.2.2.2.1,(ez (aE d) level text).1.2.2.2.2.2.2.2.2.1,(ez (aE d) level text).1.2.2.2.2.2.2.2.2.2.1,(ez (aE d) level text).1.2.2.2.2.2.2.2.2.2.2.1,(ez (aE d) level text).1.2.2.2.2.2.2.2.2.2.2.2.1,(ez (aE d) level text).1.2.2.2.2.2.2.2.2.2.2.2.2.1,(ez (aE d) level text).1.2.2.2.2.2.2.2.2.2.2.2.2.2.1,(ez (aE d) level text).1.2.2.2.2.2.2.2.2.2.2.2.2.2.2.1,(ez (aE d) level text).1.2.2.2.2.2.2.2.2.2.2.2.2.2.2.2.1,(ez (aE d) level text).2,())∧Bm d.2.2.1 d.2.2.2.1 d.2.2.2.2.1 d.2.2.2.2.2.1 d.2.2.2.2.2.2.1 d.2.2.2.2.2.2.2.1 d.2.2.2.2.2.2.2.2.1 d.2.2.2.2.2.2.2.2.2.1 d.2.2.2.2.2.2.2.2.2.2.1 d.2.2.2.2.2.2.2.2.2.2.2.1 d.2.2.2.2.2.2.2.2.2.2.2.2.1 d.2.2.2.2.2.2.2.2.2.2.2.2.2.1 d.2.2.2.2.2.2.2.2.2.2.2.2.2.2.1 d.2.2.2.2.2.2.2.2.2.2.2.2.2.2.2.1 d.2.2.2.2.2.2.2.2.2.2.2.2.2.2.2.2.1 d.2.2.2.2.2.2.2.2.2.2.2.2.2.2.2.2.2.1 level text=some ((ez (aE d) level text).1.1,(ez (aE d) level text).1.2.1,(ez (aE d) level text).1.2.2.1,(ez (aE d) level text).1.2.2.2.1,(ez (aE d) level text).1.2.2.2.2.1,(ez (aE d) level text).1.2.2.2.2.2.1,(ez (aE d) level text).1.2.2.2.2.2.2.1,(ez (aE d) level text).1.2.2.2.2.2.2.2.1,(ez (aE d) level text).1.2.2.2.2.2.2.2.2.1,(ez (aE d) level text).1.2.2.2.2.2.2.2.2.2.1,(ez (aE d) level text).1.2.2.2.2.2.2.2.2.2.2.1,(ez (aE d) level text).1.2.2.2.2.2.2.2.2.2.2.2.1,(ez (aE d) level text).1.2.2.2.2.2.2.2.2.2.2.2.2.1,(ez (aE d) level text).1.2.2.2.2.2.2.2.2.2.2.2.2.2.1,(ez (aE d) level text).1.2.2.2.2.2.2.2.2.2.2.2.2.2.2.1,(ez (aE d) level text).1.2.2.2.2.2.2.2.2.2.2.2.2.2.2.2.1,(ez (aE d) level text).2,()):=Yj (aE d) level text (Nat.le_trans (Sb d) h);unfold qw nP bK fA;delta cS bt;simp only [k1,k2,p1,p2,s.1,s.2,Option.bind_some];generalize ez (aE d) level text=q;obtain ⟨m',b⟩:=q
 cases jU d
 ·cases d.2.1
  ·cases decide (d.2.2.2.2.2.2.2.2.2.2.2.2.2.2.2.2.2.2.2.1=0)
   ·exact ⟨rfl,rfl⟩
   ·exact ⟨rfl,rfl⟩
  ·exact ⟨rfl,rfl⟩
 ·cases d.2.1
  ·cases decide (d.2.2.2.2.2.2.2.2.2.2.2.2.2.2.2.2.2.2.2.1=0)
   ·cases b
    ·exact ⟨rfl,rfl⟩
    ·exact ⟨rfl,rfl⟩
   ·exact ⟨rfl,rfl⟩
  ·exact ⟨rfl,rfl⟩
end Go.TM
set_option linter.unusedSimpArgs false
set_option linter.unusedVariables false
namespace Go.TM
open Go
theorem Yk (d:bY):fJ d.2.2.2.2.2.2.2.2.2.2.2.2.2.2.2.2.2.2.2.2.1 d.2.2.2.2.2.2.2.2.2.2.2.2.2.2.2.2.2.2.2.2.2.1=some ((decide (d.2.2.2.2.2.2.2.2.2.2.2.2.2.2.2.2.2.2.2.2.1=0)&&decide (((List.length d.2.2.2.2.2.2.2.2.2.2.2.2.2.2.2.2.2.2.2.2.2.1:Nat):Int)=0)),()):=(u9 _ _).1
theorem yg (d:bY) (h:ow d≤1048576):fi d.1 d.2.1 d.2.2.1 d.2.2.2.1 d.2.2.2.2.1 d.2.2.2.2.2.1 d.2.2.2.2.2.2.1 d.2.2.2.2.2.2.2.1 d.2.2.2.2.2.2.2.2.1 d.2.2.2.2.2.2.2.2.2.1 d.2.2.2.2.2.2.2.2.2.2.1 d.2.2.2.2.2.2.2.2.2.2.2.1 d.2.2.2.2.2.2.2.2.2.2.2.2.1 d.2.2.2.2.2.2.2.2.2.2.2.2.2.1 d.2.2.2.2.2.2.2.2.2.2.2.2.2.2.1 d.2.2.2.2.2.2.2.2.2.2.2.2.2.2.2.1 d.2.2.2.2.2.2.2.2.2.2.2.2.2.2.2.2.1 d.2.2.2.2.2.2.2.2.2.2.2.2.2.2.2.2.2.1 d.2.2.2.2.2.2.2.2.2.2.2.2.2.2.2.2.2.2.1 d.2.2.2.2.2.2.2.2.2.2.2.2.2.2.2.2.2.2.2.1 d.2.2.2.2.2.2.2.2.2.2.2.2.2.2.2.2.2.2.2.2.1 d.2.2.2.2.2.2.2.2.2.2.2.2.2.2.2.2.2.2.2.2.2.1 d.2.2.2.2.2.2.2.2.2.2.2.2.2.2.2.2.2.2.2.2.2.2.1 d.2.2.2.2.2.2.2.2.2.2.2.2.2.2.2.2.2.2.2.2.2.2.2.1=some ((jU d&&(!d.2.1&&(decide (0<d.2.2.2.2.2.2.2.2.2.2.2.2.2.2.2.2.2.2.2.1)&&decide (d.2.2.2.2.2.2.2.2.2.2.2.2.2.2.2.2.2.2.2.2.1=0)))),()):=by
 obtain ⟨k1,_,k3⟩:=m7 d h;unfold fi;simp only [k1,Yk,Option.bind_some]
 cases hb:jU d
 ·rfl
 have q:=k3.1 hb
 cases hd:d.2.1
 ·by_cases ho:0<d.2.2.2.2.2.2.2.2.2.2.2.2.2.2.2.2.2.2.2.1
  ·rw [ak ho];rcases q.nS with j | j
   ·rw [j.1,j.2.1];rfl
   ·have:¬d.2.2.2.2.2.2.2.2.2.2.2.2.2.2.2.2.2.2.2.2.1=0:=by have:=j.1.1.1;omega
    rw [aq this];rfl
  ·rw [aq ho];rfl
 ·rfl
theorem Gl (c:Int) (xs:dG) (h:xs.length≤1048576) (hr:lU c xs):pw c xs=some (c,1,0,0,0,[],())∧pA c xs=some (c,1,0,0,0,[],()):=by
 obtain ⟨k1,k2,k3⟩:=qU c xs h;unfold pw pA;rw [k1,k2,k3.2 hr];exact ⟨rfl,rfl⟩
theorem El (d:bY) (h:ow d≤1048576):∃(t:kJ) (b:Bool),n6 d.1 d.2.1 d.2.2.1 d.2.2.2.1 d.2.2.2.2.1 d.2.2.2.2.2.1 d.2.2.2.2.2.2.1 d.2.2.2.2.2.2.2.1 d.2.2.2.2.2.2.2.2.1 d.2.2.2.2.2.2.2.2.2.1 d.2.2.2.2.2.2.2.2.2.2.1 d.2.2.2.2.2.2.2.2.2.2.2.1 d.2.2.2.2.2.2.2.2.2.2.2.2.1 d.2.2.2.2.2.2.2.2.2.2.2.2.2.1 d.2.2.2.2.2.2.2.2.2.2.2.2.2.2.1 d.2.2.2.2.2.2.2.2.2.2.2.2.2.2.2.1 d.2.2.2.2.2.2.2.2.2.2.2.2.2.2.2.2.1 d.2.2.2.2.2.2.2.2.2.2.2.2.2.2.2.2.2.1 d.2.2.2.2.2.2.2.2.2.2.2.2.2.2.2.2.2.2.1 d.2.2.2.2.2.2.2.2.2.2.2.2.2.2.2.2.2.2.2.1 d.2.2.2.2.2.2.2.2.2.2.2.2.2.2.2.2.2.2.2.2.1 d.2.2.2.2.2.2.2.2.2.2.2.2.2.2.2.2.2.2.2.2.2.1 d.2.2.2.2.2.2.2.2.2.2.2.2.2.2.2.2.2.2.2.2.2.2.1 d.2.2.2.2.2.2.2.2.2.2.2.2.2.2.2.2.2.2.2.2.2.2.2.1=some (t.1,t.2.1,t.2.2.1,t.2.2.2.1,t.2.2.2.2.1,t.2.2.2.2.2.1,b,())∧ot d.1 d.2.1 d.2.2.1 d.2.2.2.1 d.2.2.2.2.1 d.2.2.2.2.2.1 d.2.2.2.2.2.2.1 d.2.2.2.2.2.2.2.1 d.2.2.2.2.2.2.2.2.1 d.2.2.2.2.2.2.2.2.2.1 d.2.2.2.2.2.2.2.2.2.2.1 d.2.2.2.2.2.2.2.2.2.2.2.1 d.2.2.2.2.2.2.2.2.2.2.2.2.1 d.2.2.2.2.2.2.2.2.2.2.2.2.2.1 d.2.2.2.2.2.2.2.2.2.2.2.2.2.2.1 d.2.2.2.2.2.2.2.2.2.2.2.2.2.2.2.1 d.2.2.2.2.2.2.2.2.2.2.2.2.2.2.2.2.1 d.2.2.2.2.2.2.2.2.2.2.2.2.2.2.2.2.2.1 d.2.2.2.2.2.2.2.2.2.2.2.2.2.2.2.2.2.2.1 d.2.2.2.2.2.2.2.2.2.2.2.2.2.2.2.2.2.2.2.1 d.2.2.2.2.2.2.2.2.2.2.2.2.2.2.2.2.2.2.2.2.1 d.2.2.2.2.2.2.2.2.2.2.2.2.2.2.2.2.2.2.2.2.2.1 d.2.2.2.2.2.2.2.2.2.2.2.2.2.2.2.2.2.2.2.2.2.2.1 d.2.2.2.2.2.2.2.2.2.2.2.2.2.2.2.2.2.2.2.2.2.2.2.1=some (t.1,t.2.1,t.2.2.1,t.2.2.2.1,t.2.2.2.2.1,t.2.2.2.2.2.1,b,())∧t.2.2.2.2.2.1=[]:=by
 obtain ⟨k1,k2,k3⟩:=m7 d h;have hi:=yg d h;unfold n6 ot;delta bt;simp only [hi,k2,Option.bind_some];have zero:(∃(t:kJ) (b:Bool),some ((0:Int),(0:Int),(0:Int),(0:Int),(0:Int),([]:dG),false,())=some (t.1,t.2.1,t.2.2.1,t.2.2.2.1,t.2.2.2.2.1,t.2.2.2.2.2.1,b,())∧some ((0:Int),(0:Int),(0:Int),(0:Int),(0:Int),([]:dG),false,())=some (t.1,t.2.1,t.2.2.1,t.2.2.2.1,t.2.2.2.2.1,t.2.2.2.2.2.1,b,())∧t.2.2.2.2.2.1=[]):=⟨(0,0,0,0,0,[],()),false,rfl,rfl,rfl⟩
 cases hd:d.2.1
 case true=>
  cases jU d<;>exact zero
 by_cases ho:0<d.2.2.2.2.2.2.2.2.2.2.2.2.2.2.2.2.2.2.2.1
 case neg=>
  rw [aq ho,ak (show d.2.2.2.2.2.2.2.2.2.2.2.2.2.2.2.2.2.2.2.1≤0 by omega)]
  cases jU d<;>exact zero
 rw [ak ho,aq (show ¬d.2.2.2.2.2.2.2.2.2.2.2.2.2.2.2.2.2.2.2.1≤0 by omega)]
 by_cases hj:d.2.2.2.2.2.2.2.2.2.2.2.2.2.2.2.2.2.2.2.2.1=0
 case neg=>
  rw [aq hj]
  cases jU d<;>exact zero
 rw [ak hj]
 cases hb:jU d
 ·cases decide (d.2.2.2.2.2.2.2.2.1=0)
  ·exact zero
  ·exact zero
 have q:=k3.1 hb;have hm:qW (aE d):=by
  rcases q.tS with m | m
  ·have h1:d.2.2.2.1=0:=m.2.1;have h2:=q.old.1;omega
  ·exact m.1
 have hr:lU d.2.2.2.1 d.2.2.2.2.1:=hm.ring;unfold ow at h;obtain ⟨f1,f2⟩:=Gl d.2.2.2.1 d.2.2.2.2.1 (by omega) hr;have hl:0<(d.2.2.2.2.1).length:=by have:=hr.2.1;omega
 have mU:¬((List.length d.2.2.2.2.1:Nat):Int)=0:=by omega
 rw [f1,f2,List.getElem?_eq_getElem hl,aq mU];simp only [Option.bind_some,Bool.not_true,Bool.not_false,Bool.and_true,cond_true,cond_false]
 by_cases h8:d.2.2.2.2.2.2.2.2.1=0
 ·rw [ak h8]
  by_cases h0:((d.2.2.2.2.1)[0]).1=d.1
  ·rw [ak h0];exact ⟨(d.2.2.2.1,1,0,0,0,[],()),true,rfl,rfl,rfl⟩
  ·rw [aq h0];exact zero
 ·rw [aq h8]
  by_cases h0:((d.2.2.2.2.1)[0]).1=d.1
  ·rw [ak h0];exact zero
  ·rw [aq h0];exact zero
end Go.TM
set_option linter.unusedSimpArgs false
set_option linter.unusedVariables false
namespace Go.TM
open Go
def mi (xs:aU) (s:Int):dY:=((qT (ey xs s)).1,(qT (ey xs s)).2.1,(qT (ey xs s)).2.2.1,(qT (ey xs s)).2.2.2.1,())
def gV (xs:aU) (h:Int) (k:Nat):aU:=(List.range k).map fun j=>mi xs (h+((j+1:Nat):Int))
theorem zQ (xs:aU) (h:Int) (k:Nat):(gV xs h k).length=k:=by simp [gV]
theorem sX (xs:aU) (h:Int) (k:Nat):gV xs h (k+1)=gV xs h k++[mi xs (h+((k+1:Nat):Int))]:=by
 unfold gV;rw [List.range_succ,List.map_append];rfl
theorem MG {xs:aU} {s:Int} (h:fa xs xs.length):ByteArray.size (mi xs s).2.2.2.1≤60:=by
 show ByteArray.size (qT (ey xs s)).2.2.2.1≤60
 cases e:ey xs s with
 |none=>exact Nat.zero_le _
 |some r=>
  obtain ⟨k,hk,rfl⟩:=List.mem_iff_getElem.1 (zG e).1;exact (h k hk hk).1.2.2.2
theorem OI {xs:aU} {h:Int} {k:Nat} (hi:fa xs xs.length):wl dF (gV xs h k)≤60*k:=by
 have:=Lr dF 60 (gV xs h k) (fun x hx=>by
  unfold gV at hx;obtain ⟨j,_,rfl⟩:=List.mem_map.1 hx;exact MG hi)
 rwa [zQ] at this
def Bq (xs:aU) (line s:Int):Prop:=(mi xs s).2.2.1=2∧line<(mi xs s).1
theorem OJ (m:iG) (h0:mg m≤1048576):∃(k:Nat) (v:Int),oa m.1 m.2.1 m.2.2.1 m.2.2.2.1 m.2.2.2.2.1 m.2.2.2.2.2.1 m.2.2.2.2.2.2.1 m.2.2.2.2.2.2.2.1 m.2.2.2.2.2.2.2.2.1 m.2.2.2.2.2.2.2.2.2.1 m.2.2.2.2.2.2.2.2.2.2.1 m.2.2.2.2.2.2.2.2.2.2.2.1 m.2.2.2.2.2.2.2.2.2.2.2.2.1 m.2.2.2.2.2.2.2.2.2.2.2.2.2.1 m.2.2.2.2.2.2.2.2.2.2.2.2.2.2.1 m.2.2.2.2.2.2.2.2.2.2.2.2.2.2.2.1=some (m.1,m.2.1,m.2.2.1,m.2.2.2.1,m.2.2.2.2.1,m.2.2.2.2.2.1,m.2.2.2.2.2.2.1,m.2.2.2.2.2.2.2.1,m.2.2.2.2.2.2.2.2.1,v,m.2.2.2.2.2.2.2.2.2.2.1,m.2.2.2.2.2.2.2.2.2.2.2.1,m.2.2.2.2.2.2.2.2.2.2.2.2.1,m.2.2.2.2.2.2.2.2.2.2.2.2.2.1,m.2.2.2.2.2.2.2.2.2.2.2.2.2.2.1,m.2.2.2.2.2.2.2.2.2.2.2.2.2.2.2.1,gV m.2.2.2.1 m.2.2.2.2.2.2.2.2.2.1 k,())∧pY m.1 m.2.1 m.2.2.1 m.2.2.2.1 m.2.2.2.2.1 m.2.2.2.2.2.1 m.2.2.2.2.2.2.1 m.2.2.2.2.2.2.2.1 m.2.2.2.2.2.2.2.2.1 m.2.2.2.2.2.2.2.2.2.1 m.2.2.2.2.2.2.2.2.2.2.1 m.2.2.2.2.2.2.2.2.2.2.2.1 m.2.2.2.2.2.2.2.2.2.2.2.2.1 m.2.2.2.2.2.2.2.2.2.2.2.2.2.1 m.2.2.2.2.2.2.2.2.2.2.2.2.2.2.1 m.2.2.2.2.2.2.2.2.2.2.2.2.2.2.2.1=some (m.1,m.2.1,m.2.2.1,m.2.2.2.1,m.2.2.2.2.1,m.2.2.2.2.2.1,m.2.2.2.2.2.2.1,m.2.2.2.2.2.2.2.1,m.2.2.2.2.2.2.2.2.1,v,m.2.2.2.2.2.2.2.2.2.2.1,m.2.2.2.2.2.2.2.2.2.2.2.1,m.2.2.2.2.2.2.2.2.2.2.2.2.1,m.2.2.2.2.2.2.2.2.2.2.2.2.2.1,m.2.2.2.2.2.2.2.2.2.2.2.2.2.2.1,m.2.2.2.2.2.2.2.2.2.2.2.2.2.2.2.1,gV m.2.2.2.1 m.2.2.2.2.2.2.2.2.2.1 k,())∧v=m.2.2.2.2.2.2.2.2.2.1+((k:Nat):Int)∧
  (sW m=false→k=0)∧(sW m=true→v≤((cY m.2.2.2.1:Nat):Int)∧(∀j,j<k→¬Bq m.2.2.2.1 m.2.2.2.2.2.2.2.2.1 (m.2.2.2.2.2.2.2.2.2.1+((j+1:Nat):Int)))∧(v<((cY m.2.2.2.1:Nat):Int)→Bq m.2.2.2.1 m.2.2.2.2.2.2.2.2.1 (m.2.2.2.2.2.2.2.2.2.1+((k+1:Nat):Int)))):=by
 obtain ⟨k1,k2,k3⟩:=qX m h0;obtain ⟨p1,p2⟩:=nR m.1 m.2.1 m.2.2.1 m.2.2.2.1 m.2.2.2.2.1 m.2.2.2.2.2.1 m.2.2.2.2.2.2.1 m.2.2.2.2.2.2.2.1 m.2.2.2.2.2.2.2.2.1 m.2.2.2.2.2.2.2.2.2.1 m.2.2.2.2.2.2.2.2.2.2.1 m.2.2.2.2.2.2.2.2.2.2.2.1 m.2.2.2.2.2.2.2.2.2.2.2.2.1 m.2.2.2.2.2.2.2.2.2.2.2.2.2.1 m.2.2.2.2.2.2.2.2.2.2.2.2.2.2.1 m.2.2.2.2.2.2.2.2.2.2.2.2.2.2.2.1 h0;unfold oa pY;delta cS;simp only [k1,k2,p1,p2,Option.bind_some]
 cases hb:sW m
 ·exact ⟨0,m.2.2.2.2.2.2.2.2.2.1,rfl,rfl,by omega,(fun _=>rfl),(fun h=>by cases h)⟩
 have hm:=k3.1 hb;have UU:=dm m.2.2.2.1 hm.items;have hl:m.2.2.2.1.length≤1048576:=by omega
 obtain ⟨a1,a2,a3⟩:=xC m.2.2.2.1 hl;have hh:=hm.heard;generalize hn:cY m.2.2.2.1=n at a1 a2 a3 hh;have axb:n≤60:=Nat.le_trans a3.1 UU.1;obtain ⟨e,f,g1,g2,k,v,g3,g4,g5,g6,g7,g8⟩:∃e f,aJ qI (m.1,m.2.1,m.2.2.1,m.2.2.2.1,m.2.2.2.2.1,m.2.2.2.2.2.1,m.2.2.2.2.2.2.1,m.2.2.2.2.2.2.2.1,m.2.2.2.2.2.2.2.2.1,m.2.2.2.2.2.2.2.2.2.1,m.2.2.2.2.2.2.2.2.2.2.1,m.2.2.2.2.2.2.2.2.2.2.2.1,m.2.2.2.2.2.2.2.2.2.2.2.2.1,m.2.2.2.2.2.2.2.2.2.2.2.2.2.1,m.2.2.2.2.2.2.2.2.2.2.2.2.2.2.1,m.2.2.2.2.2.2.2.2.2.2.2.2.2.2.2.1,(0:Int),(0:Int),[],[],[],[],(0:Int),(0:Int),(0:Int),(0:Int),(0:Int),(0:Int),(0:Int),(0:Int),(0:Int),[],m.1,m.2.1,m.2.2.1,m.2.2.2.1,m.2.2.2.2.1,m.2.2.2.2.2.1,m.2.2.2.2.2.2.1,m.2.2.2.2.2.2.2.1,m.2.2.2.2.2.2.2.2.1,m.2.2.2.2.2.2.2.2.2.1,m.2.2.2.2.2.2.2.2.2.2.1,m.2.2.2.2.2.2.2.2.2.2.2.1,m.2.2.2.2.2.2.2.2.2.2.2.2.1,m.2.2.2.2.2.2.2.2.2.2.2.2.2.1,m.2.2.2.2.2.2.2.2.2.2.2.2.2.2.1,m.2.2.2.2.2.2.2.2.2.2.2.2.2.2.2.1,[],((n:Nat):Int),())=some e∧aJ qS (m.1,m.2.1,m.2.2.1,m.2.2.2.1,m.2.2.2.2.1,m.2.2.2.2.2.1,m.2.2.2.2.2.2.1,m.2.2.2.2.2.2.2.1,m.2.2.2.2.2.2.2.2.1,m.2.2.2.2.2.2.2.2.2.1,m.2.2.2.2.2.2.2.2.2.2.1,m.2.2.2.2.2.2.2.2.2.2.2.1,m.2.2.2.2.2.2.2.2.2.2.2.2.1,m.2.2.2.2.2.2.2.2.2.2.2.2.2.1,m.2.2.2.2.2.2.2.2.2.2.2.2.2.2.1,m.2.2.2.2.2.2.2.2.2.2.2.2.2.2.2.1,(0:Int),(0:Int),[],[],[],[],(0:Int),(0:Int),(0:Int),(0:Int),(0:Int),(0:Int),(0:Int),(0:Int),(0:Int),[],m.1,m.2.1,m.2.2.1,m.2.2.2.1,m.2.2.2.2.1,m.2.2.2.2.2.1,m.2.2.2.2.2.2.1,m.2.2.2.2.2.2.2.1,m.2.2.2.2.2.2.2.2.1,m.2.2.2.2.2.2.2.2.2.1,m.2.2.2.2.2.2.2.2.2.2.1,m.2.2.2.2.2.2.2.2.2.2.2.1,m.2.2.2.2.2.2.2.2.2.2.2.2.1,m.2.2.2.2.2.2.2.2.2.2.2.2.2.1,m.2.2.2.2.2.2.2.2.2.2.2.2.2.2.1,m.2.2.2.2.2.2.2.2.2.2.2.2.2.2.2.1,[],())=some f∧
   ∃(k:Nat) (v:Int),(e=.inl ((0:Int),(0:Int),[],[],[],[],(0:Int),(0:Int),(0:Int),(0:Int),(0:Int),(0:Int),(0:Int),(0:Int),(0:Int),[],m.1,m.2.1,m.2.2.1,m.2.2.2.1,m.2.2.2.2.1,m.2.2.2.2.2.1,m.2.2.2.2.2.2.1,m.2.2.2.2.2.2.2.1,m.2.2.2.2.2.2.2.2.1,v,m.2.2.2.2.2.2.2.2.2.2.1,m.2.2.2.2.2.2.2.2.2.2.2.1,m.2.2.2.2.2.2.2.2.2.2.2.2.1,m.2.2.2.2.2.2.2.2.2.2.2.2.2.1,m.2.2.2.2.2.2.2.2.2.2.2.2.2.2.1,m.2.2.2.2.2.2.2.2.2.2.2.2.2.2.2.1,gV m.2.2.2.1 m.2.2.2.2.2.2.2.2.2.1 k,())∨e=.inr (m.1,m.2.1,m.2.2.1,m.2.2.2.1,m.2.2.2.2.1,m.2.2.2.2.2.1,m.2.2.2.2.2.2.1,m.2.2.2.2.2.2.2.1,m.2.2.2.2.2.2.2.2.1,v,m.2.2.2.2.2.2.2.2.2.2.1,m.2.2.2.2.2.2.2.2.2.2.2.1,m.2.2.2.2.2.2.2.2.2.2.2.2.1,m.2.2.2.2.2.2.2.2.2.2.2.2.2.1,m.2.2.2.2.2.2.2.2.2.2.2.2.2.2.1,m.2.2.2.2.2.2.2.2.2.2.2.2.2.2.2.1,gV m.2.2.2.1 m.2.2.2.2.2.2.2.2.2.1 k,()))∧f=.inl ((0:Int),(0:Int),[],[],[],[],(0:Int),(0:Int),(0:Int),(0:Int),(0:Int),(0:Int),(0:Int),(0:Int),(0:Int),[],m.1,m.2.1,m.2.2.1,m.2.2.2.1,m.2.2.2.2.1,m.2.2.2.2.2.1,m.2.2.2.2.2.2.1,m.2.2.2.2.2.2.2.1,m.2.2.2.2.2.2.2.2.1,v,m.2.2.2.2.2.2.2.2.2.2.1,m.2.2.2.2.2.2.2.2.2.2.2.1,m.2.2.2.2.2.2.2.2.2.2.2.2.1,m.2.2.2.2.2.2.2.2.2.2.2.2.2.1,m.2.2.2.2.2.2.2.2.2.2.2.2.2.2.1,m.2.2.2.2.2.2.2.2.2.2.2.2.2.2.2.1,gV m.2.2.2.1 m.2.2.2.2.2.2.2.2.2.1 k,())∧v=m.2.2.2.2.2.2.2.2.2.1+((k:Nat):Int)∧v≤((n:Nat):Int)∧
    (∀j,j<k→¬Bq m.2.2.2.1 m.2.2.2.2.2.2.2.2.1 (m.2.2.2.2.2.2.2.2.2.1+((j+1:Nat):Int)))∧(v<((n:Nat):Int)→Bq m.2.2.2.1 m.2.2.2.2.2.2.2.2.1 (m.2.2.2.2.2.2.2.2.2.1+((k+1:Nat):Int))):=by
  refine qn 60 (fun k x y=>∃v:Int,x=(m.1,m.2.1,m.2.2.1,m.2.2.2.1,m.2.2.2.2.1,m.2.2.2.2.2.1,m.2.2.2.2.2.2.1,m.2.2.2.2.2.2.2.1,m.2.2.2.2.2.2.2.2.1,m.2.2.2.2.2.2.2.2.2.1,m.2.2.2.2.2.2.2.2.2.2.1,m.2.2.2.2.2.2.2.2.2.2.2.1,m.2.2.2.2.2.2.2.2.2.2.2.2.1,m.2.2.2.2.2.2.2.2.2.2.2.2.2.1,m.2.2.2.2.2.2.2.2.2.2.2.2.2.2.1,m.2.2.2.2.2.2.2.2.2.2.2.2.2.2.2.1,(0:Int),(0:Int),[],[],[],[],(0:Int),(0:Int),(0:Int),(0:Int),(0:Int),(0:Int),(0:Int),(0:Int),(0:Int),[],m.1,m.2.1,m.2.2.1,m.2.2.2.1,m.2.2.2.2.1,m.2.2.2.2.2.1,m.2.2.2.2.2.2.1,m.2.2.2.2.2.2.2.1,m.2.2.2.2.2.2.2.2.1,v,m.2.2.2.2.2.2.2.2.2.2.1,m.2.2.2.2.2.2.2.2.2.2.2.1,m.2.2.2.2.2.2.2.2.2.2.2.2.1,m.2.2.2.2.2.2.2.2.2.2.2.2.2.1,m.2.2.2.2.2.2.2.2.2.2.2.2.2.2.1,m.2.2.2.2.2.2.2.2.2.2.2.2.2.2.2.1,gV m.2.2.2.1 m.2.2.2.2.2.2.2.2.2.1 k,((n:Nat):Int),())∧y=(m.1,m.2.1,m.2.2.1,m.2.2.2.1,m.2.2.2.2.1,m.2.2.2.2.2.1,m.2.2.2.2.2.2.1,m.2.2.2.2.2.2.2.1,m.2.2.2.2.2.2.2.2.1,m.2.2.2.2.2.2.2.2.2.1,m.2.2.2.2.2.2.2.2.2.2.1,m.2.2.2.2.2.2.2.2.2.2.2.1,m.2.2.2.2.2.2.2.2.2.2.2.2.1,m.2.2.2.2.2.2.2.2.2.2.2.2.2.1,m.2.2.2.2.2.2.2.2.2.2.2.2.2.2.1,m.2.2.2.2.2.2.2.2.2.2.2.2.2.2.2.1,(0:Int),(0:Int),[],[],[],[],(0:Int),(0:Int),(0:Int),(0:Int),(0:Int),(0:Int),(0:Int),(0:Int),(0:Int),[],m.1,m.2.1,m.2.2.1,m.2.2.2.1,m.2.2.2.2.1,m.2.2.2.2.2.1,m.2.2.2.2.2.2.1,m.2.2.2.2.2.2.2.1,m.2.2.2.2.2.2.2.2.1,v,m.2.2.2.2.2.2.2.2.2.2.1,m.2.2.2.2.2.2.2.2.2.2.2.1,m.2.2.2.2.2.2.2.2.2.2.2.2.1,m.2.2.2.2.2.2.2.2.2.2.2.2.2.1,m.2.2.2.2.2.2.2.2.2.2.2.2.2.2.1,m.2.2.2.2.2.2.2.2.2.2.2.2.2.2.2.1,gV m.2.2.2.1 m.2.2.2.2.2.2.2.2.2.1 k,())∧v=m.2.2.2.2.2.2.2.2.2.1+((k:Nat):Int)∧v≤((n:Nat):Int)∧∀j,j<k→¬Bq m.2.2.2.1 m.2.2.2.2.2.2.2.2.1 (m.2.2.2.2.2.2.2.2.2.1+((j+1:Nat):Int))) _ ?_ ⟨m.2.2.2.2.2.2.2.2.2.1,rfl,rfl,by omega,hh.2,fun j h=>by omega⟩
  rintro k x y hk ⟨v,rfl,rfl,q1,q2,q3⟩
  by_cases dO:v<((n:Nat):Int)
  ·have hw:IntKind.i64.wrap (v+(1:Int))=m.2.2.2.2.2.2.2.2.2.1+((k+1:Nat):Int):=by rw [dq]<;>omega
   have hbl:Nat.ble (((gV m.2.2.2.1 m.2.2.2.2.2.2.2.2.2.1 k).length+1)*40) lim=true:=aS (by rw [zQ];unfold lim;omega);have more:¬Bq m.2.2.2.1 m.2.2.2.2.2.2.2.2.1 (m.2.2.2.2.2.2.2.2.2.1+((k+1:Nat):Int))→∀j,j<k+1→¬Bq m.2.2.2.1 m.2.2.2.2.2.2.2.2.1 (m.2.2.2.2.2.2.2.2.2.1+((j+1:Nat):Int)):=fun hnw j hj=>by
    by_cases e:j<k
    ·exact q3 j e
    ·have:j=k:=by omega
     subst this;exact hnw
   simp only [qI,az,yP,aA,qS,az,zF,aA,ak dO,a2,hw,w6 m.2.2.2.1 _ hl,w7 m.2.2.2.1 _ hl,Option.bind_some,cond_true,hbl]
   by_cases c1:(qT (ey m.2.2.2.1 (m.2.2.2.2.2.2.2.2.2.1+((k+1:Nat):Int)))).2.2.1=2
   ·rw [ak c1]
    by_cases c2:m.2.2.2.2.2.2.2.2.1<(qT (ey m.2.2.2.1 (m.2.2.2.2.2.2.2.2.2.1+((k+1:Nat):Int)))).1
    ·rw [ak c2];exact .inl ⟨_,_,rfl,rfl,k,v,.inr rfl,rfl,q1,q2,q3,fun _=>⟨c1,c2⟩⟩
    ·rw [aq c2];exact .inr ⟨by omega,_,_,rfl,rfl,m.2.2.2.2.2.2.2.2.2.1+((k+1:Nat):Int),by rw [sX];rfl,by rw [sX];rfl,rfl,by omega,more fun h=>c2 h.2⟩
   ·rw [aq c1];exact .inr ⟨by omega,_,_,rfl,rfl,m.2.2.2.2.2.2.2.2.2.1+((k+1:Nat):Int),by rw [sX];rfl,by rw [sX];rfl,rfl,by omega,more fun h=>c1 h.1⟩
  ·simp only [qI,az,yP,aA,qS,az,zF,aA,aq dO,a2,Option.bind_some,cond_false];exact .inl ⟨_,_,rfl,rfl,k,v,.inl rfl,rfl,q1,q2,q3,fun h=>absurd h dO⟩
 simp only [a1,Option.bind_some,Bool.not_true,cond_false];rw [g1,g2,g4];refine ⟨k,v,?_,rfl,g5,(fun h=>by cases h),(fun _=>⟨by first | exact g6 | (rw [hn];exact g6),g7,fun h=>g8 (by first | exact h | (rw [hn] at h;exact h))⟩)⟩;rcases g3 with rfl | rfl
 ·rfl
 ·rfl
end Go.TM
set_option linter.unusedSimpArgs false
set_option linter.unusedVariables false
namespace Go.TM
open Go
noncomputable def ch (m:iG):iG×aU:=match oa m.1 m.2.1 m.2.2.1 m.2.2.2.1 m.2.2.2.2.1 m.2.2.2.2.2.1 m.2.2.2.2.2.2.1 m.2.2.2.2.2.2.2.1 m.2.2.2.2.2.2.2.2.1 m.2.2.2.2.2.2.2.2.2.1 m.2.2.2.2.2.2.2.2.2.2.1 m.2.2.2.2.2.2.2.2.2.2.2.1 m.2.2.2.2.2.2.2.2.2.2.2.2.1 m.2.2.2.2.2.2.2.2.2.2.2.2.2.1 m.2.2.2.2.2.2.2.2.2.2.2.2.2.2.1 m.2.2.2.2.2.2.2.2.2.2.2.2.2.2.2.1 with
 |some x=>((x.1,x.2.1,x.2.2.1,x.2.2.2.1,x.2.2.2.2.1,x.2.2.2.2.2.1,x.2.2.2.2.2.2.1,x.2.2.2.2.2.2.2.1,x.2.2.2.2.2.2.2.2.1,x.2.2.2.2.2.2.2.2.2.1,x.2.2.2.2.2.2.2.2.2.2.1,x.2.2.2.2.2.2.2.2.2.2.2.1,x.2.2.2.2.2.2.2.2.2.2.2.2.1,x.2.2.2.2.2.2.2.2.2.2.2.2.2.1,x.2.2.2.2.2.2.2.2.2.2.2.2.2.2.1,x.2.2.2.2.2.2.2.2.2.2.2.2.2.2.2.1,()),x.2.2.2.2.2.2.2.2.2.2.2.2.2.2.2.2.1)
 |none=>(m,[])
theorem Sc (m:iG) (h0:mg m≤1048576):∃(k:Nat) (v:Int),ch m=((m.1,m.2.1,m.2.2.1,m.2.2.2.1,m.2.2.2.2.1,m.2.2.2.2.2.1,m.2.2.2.2.2.2.1,m.2.2.2.2.2.2.2.1,m.2.2.2.2.2.2.2.2.1,v,m.2.2.2.2.2.2.2.2.2.2.1,m.2.2.2.2.2.2.2.2.2.2.2.1,m.2.2.2.2.2.2.2.2.2.2.2.2.1,m.2.2.2.2.2.2.2.2.2.2.2.2.2.1,m.2.2.2.2.2.2.2.2.2.2.2.2.2.2.1,m.2.2.2.2.2.2.2.2.2.2.2.2.2.2.2.1,()),gV m.2.2.2.1 m.2.2.2.2.2.2.2.2.2.1 k)∧oa m.1 m.2.1 m.2.2.1 m.2.2.2.1 m.2.2.2.2.1 m.2.2.2.2.2.1 m.2.2.2.2.2.2.1 m.2.2.2.2.2.2.2.1 m.2.2.2.2.2.2.2.2.1 m.2.2.2.2.2.2.2.2.2.1 m.2.2.2.2.2.2.2.2.2.2.1 m.2.2.2.2.2.2.2.2.2.2.2.1 m.2.2.2.2.2.2.2.2.2.2.2.2.1 m.2.2.2.2.2.2.2.2.2.2.2.2.2.1 m.2.2.2.2.2.2.2.2.2.2.2.2.2.2.1 m.2.2.2.2.2.2.2.2.2.2.2.2.2.2.2.1=some (m.1,m.2.1,m.2.2.1,m.2.2.2.1,m.2.2.2.2.1,m.2.2.2.2.2.1,m.2.2.2.2.2.2.1,m.2.2.2.2.2.2.2.1,m.2.2.2.2.2.2.2.2.1,v,m.2.2.2.2.2.2.2.2.2.2.1,m.2.2.2.2.2.2.2.2.2.2.2.1,m.2.2.2.2.2.2.2.2.2.2.2.2.1,m.2.2.2.2.2.2.2.2.2.2.2.2.2.1,m.2.2.2.2.2.2.2.2.2.2.2.2.2.2.1,m.2.2.2.2.2.2.2.2.2.2.2.2.2.2.2.1,gV m.2.2.2.1 m.2.2.2.2.2.2.2.2.2.1 k,())∧pY m.1 m.2.1 m.2.2.1 m.2.2.2.1 m.2.2.2.2.1 m.2.2.2.2.2.1 m.2.2.2.2.2.2.1 m.2.2.2.2.2.2.2.1 m.2.2.2.2.2.2.2.2.1 m.2.2.2.2.2.2.2.2.2.1 m.2.2.2.2.2.2.2.2.2.2.1 m.2.2.2.2.2.2.2.2.2.2.2.1 m.2.2.2.2.2.2.2.2.2.2.2.2.1 m.2.2.2.2.2.2.2.2.2.2.2.2.2.1 m.2.2.2.2.2.2.2.2.2.2.2.2.2.2.1 m.2.2.2.2.2.2.2.2.2.2.2.2.2.2.2.1=some (m.1,m.2.1,m.2.2.1,m.2.2.2.1,m.2.2.2.2.1,m.2.2.2.2.2.1,m.2.2.2.2.2.2.1,m.2.2.2.2.2.2.2.1,m.2.2.2.2.2.2.2.2.1,v,m.2.2.2.2.2.2.2.2.2.2.1,m.2.2.2.2.2.2.2.2.2.2.2.1,m.2.2.2.2.2.2.2.2.2.2.2.2.1,m.2.2.2.2.2.2.2.2.2.2.2.2.2.1,m.2.2.2.2.2.2.2.2.2.2.2.2.2.2.1,m.2.2.2.2.2.2.2.2.2.2.2.2.2.2.2.1,gV m.2.2.2.1 m.2.2.2.2.2.2.2.2.2.1 k,())∧v=m.2.2.2.2.2.2.2.2.2.1+((k:Nat):Int)∧
  (sW m=false→k=0)∧(sW m=true→v≤((cY m.2.2.2.1:Nat):Int)∧(∀j,j<k→¬Bq m.2.2.2.1 m.2.2.2.2.2.2.2.2.1 (m.2.2.2.2.2.2.2.2.2.1+((j+1:Nat):Int)))∧(v<((cY m.2.2.2.1:Nat):Int)→Bq m.2.2.2.1 m.2.2.2.2.2.2.2.2.1 (m.2.2.2.2.2.2.2.2.2.1+((k+1:Nat):Int)))):=by
 obtain ⟨k,v,h1,h2,h3⟩:=OJ m h0;exact ⟨k,v,by unfold ch;rw [h1],h1,h2,h3⟩
theorem Uq (m:iG) (h0:mg m≤1048576):oa m.1 m.2.1 m.2.2.1 m.2.2.2.1 m.2.2.2.2.1 m.2.2.2.2.2.1 m.2.2.2.2.2.2.1 m.2.2.2.2.2.2.2.1 m.2.2.2.2.2.2.2.2.1 m.2.2.2.2.2.2.2.2.2.1 m.2.2.2.2.2.2.2.2.2.2.1 m.2.2.2.2.2.2.2.2.2.2.2.1 m.2.2.2.2.2.2.2.2.2.2.2.2.1 m.2.2.2.2.2.2.2.2.2.2.2.2.2.1 m.2.2.2.2.2.2.2.2.2.2.2.2.2.2.1 m.2.2.2.2.2.2.2.2.2.2.2.2.2.2.2.1=some ((ch m).1.1,(ch m).1.2.1,(ch m).1.2.2.1,(ch m).1.2.2.2.1,(ch m).1.2.2.2.2.1,(ch m).1.2.2.2.2.2.1,(ch m).1.2.2.2.2.2.2.1,(ch m).1.2.2.2.2.2.2.2.1,(ch m).1.2.2.2.2.2.2.2.2.1,(ch m).1.2.2.2.2.2.2.2.2.2.1,(ch m).1.2.2.2.2.2.2.2.2.2.2.1,(ch m).1.2.2.2.2.2.2.2.2.2.2.2.1,(ch m).1.2.2.2.2.2.2.2.2.2.2.2.2.1,(ch m).1.2.2.2.2.2.2.2.2.2.2.2.2.2.1,(ch m).1.2.2.2.2.2.2.2.2.2.2.2.2.2.2.1,(ch m).1.2.2.2.2.2.2.2.2.2.2.2.2.2.2.2.1,(ch m).2,())∧pY m.1 m.2.1 m.2.2.1 m.2.2.2.1 m.2.2.2.2.1 m.2.2.2.2.2.1 m.2.2.2.2.2.2.1 m.2.2.2.2.2.2.2.1 m.2.2.2.2.2.2.2.2.1 m.2.2.2.2.2.2.2.2.2.1 m.2.2.2.2.2.2.2.2.2.2.1 m.2.2.2.2.2.2.2.2.2.2.2.1 m.2.2.2.2.2.2.2.2.2.2.2.2.1 m.2.2.2.2.2.2.2.2.2.2.2.2.2.1 m.2.2.2.2.2.2.2.2.2.2.2.2.2.2.1 m.2.2.2.2.2.2.2.2.2.2.2.2.2.2.2.1=some ((ch m).1.1,(ch m).1.2.1,(ch m).1.2.2.1,(ch m).1.2.2.2.1,(ch m).1.2.2.2.2.1,(ch m).1.2.2.2.2.2.1,(ch m).1.2.2.2.2.2.2.1,(ch m).1.2.2.2.2.2.2.2.1,(ch m).1.2.2.2.2.2.2.2.2.1,(ch m).1.2.2.2.2.2.2.2.2.2.1,(ch m).1.2.2.2.2.2.2.2.2.2.2.1,(ch m).1.2.2.2.2.2.2.2.2.2.2.2.1,(ch m).1.2.2.2.2.2.2.2.2.2.2.2.2.1,(ch m).1.2.2.2.2.2.2.2.2.2.2.2.2.2.1,(ch m).1.2.2.2.2.2.2.2.2.2.2.2.2.2.2.1,(ch m).1.2.2.2.2.2.2.2.2.2.2.2.2.2.2.2.1,(ch m).2,()):=by
 obtain ⟨k,v,h1,h2,h3,_⟩:=Sc m h0;rw [h1];exact ⟨h2,h3⟩
theorem Ur (m:iG) (h0:mg m≤1048576):mg (ch m).1=mg m∧(ch m).2.length≤60∧wl dF (ch m).2≤3600:=by
 obtain ⟨k,v,h1,_,_,h4,h5,h6⟩:=Sc m h0;rw [h1];refine ⟨rfl,?_⟩
 cases hb:sW m
 ·rw [h5 hb];exact ⟨Nat.zero_le _,Nat.zero_le _⟩
 ·have hm:=(qX m h0).2.2.1 hb;have UU:=dm _ hm.items;have ha:=(xC m.2.2.2.1 (by omega)).2.2.1;have hh:=hm.heard;have:=(h6 hb).1;have hk:k≤60:=by omega
  have:=OI (h:=m.2.2.2.2.2.2.2.2.2.1) (k:=k) hm.items;refine ⟨?_,?_⟩
  ·show (gV m.2.2.2.1 m.2.2.2.2.2.2.2.2.2.1 k).length≤60;rw [zQ];exact hk
  ·show wl dF (gV m.2.2.2.1 m.2.2.2.2.2.2.2.2.2.1 k)≤3600;omega
def fE (c:Int) (ms:dG) (l:aU):List wu:=l.map fun x=>(1,c,ms,x.1,x.2.1,x.2.2.1,x.2.2.2.1,[],())
theorem oz (c:Int) (ms:dG) (l:aU):(fE c ms l).length=l.length:=by simp [fE]
theorem Sd (c:Int) (ms:dG):(l:aU)→wl bu (fE c ms l)=l.length*(ms.length+wl jR ms)+wl dF l
 | []=>by simp [fE,L7]
 |x::l=>by
  have ih:=Sd c ms l;have e:fE c ms (x::l)=(1,c,ms,x.1,x.2.1,x.2.2.1,x.2.2.2.1,[],())::fE c ms l:=rfl;rw [e,sq,ih,sq,List.length_cons,Nat.add_mul];have e1:bu ((1,c,ms,x.1,x.2.1,x.2.2.1,x.2.2.2.1,[],()):wu)=(ms.length+wl jR ms)+ByteArray.size x.2.2.2.1+0:=rfl;have e2:dF x=ByteArray.size x.2.2.2.1:=rfl;omega
theorem mR (c:Int) (xs:dG) (h:xs.length≤1048576):aK c xs=some (c,xs,()):=by
 unfold aK;rw [aS (show (0+xs.length)*8≤lim by unfold lim;omega)];rfl
def pC (d:bY) (l:aU):bY:=(d.1,d.2.1,d.2.2.1,d.2.2.2.1,d.2.2.2.2.1,d.2.2.2.2.2.1,d.2.2.2.2.2.2.1,d.2.2.2.2.2.2.2.1,d.2.2.2.2.2.2.2.2.1,d.2.2.2.2.2.2.2.2.2.1,d.2.2.2.2.2.2.2.2.2.2.1,d.2.2.2.2.2.2.2.2.2.2.2.1,d.2.2.2.2.2.2.2.2.2.2.2.2.1,d.2.2.2.2.2.2.2.2.2.2.2.2.2.1,d.2.2.2.2.2.2.2.2.2.2.2.2.2.2.1,d.2.2.2.2.2.2.2.2.2.2.2.2.2.2.2.1,d.2.2.2.2.2.2.2.2.2.2.2.2.2.2.2.2.1,d.2.2.2.2.2.2.2.2.2.2.2.2.2.2.2.2.2.1,d.2.2.2.2.2.2.2.2.2.2.2.2.2.2.2.2.2.2.1,d.2.2.2.2.2.2.2.2.2.2.2.2.2.2.2.2.2.2.2.1,d.2.2.2.2.2.2.2.2.2.2.2.2.2.2.2.2.2.2.2.2.1,d.2.2.2.2.2.2.2.2.2.2.2.2.2.2.2.2.2.2.2.2.2.1,d.2.2.2.2.2.2.2.2.2.2.2.2.2.2.2.2.2.2.2.2.2.2.1,d.2.2.2.2.2.2.2.2.2.2.2.2.2.2.2.2.2.2.2.2.2.2.2.1++fE d.2.2.2.1 d.2.2.2.2.1 l,())
theorem Em {c:Int} {ms:dG} {l:aU} {lg:List wu} {k:Nat} (hk:k<l.length):lg++fE c ms (l.take (k+1))=(lg++fE c ms (l.take k))++[(1,c,ms,l[k].1,l[k].2.1,l[k].2.2.1,l[k].2.2.2.1,[],())]:=by
 rw [List.take_succ_eq_append_getElem hk,List.append_assoc]
 congr 1
 unfold fE;rw [List.map_append];rfl
theorem Yl (d:bY) (l:aU) (hr:d.2.2.2.2.1.length≤1048576) (hl:l.length≤1048576) (hg:d.2.2.2.2.2.2.2.2.2.2.2.2.2.2.2.2.2.2.2.2.2.2.2.1.length≤1048576):mB d.1 d.2.1 d.2.2.1 d.2.2.2.1 d.2.2.2.2.1 d.2.2.2.2.2.1 d.2.2.2.2.2.2.1 d.2.2.2.2.2.2.2.1 d.2.2.2.2.2.2.2.2.1 d.2.2.2.2.2.2.2.2.2.1 d.2.2.2.2.2.2.2.2.2.2.1 d.2.2.2.2.2.2.2.2.2.2.2.1 d.2.2.2.2.2.2.2.2.2.2.2.2.1 d.2.2.2.2.2.2.2.2.2.2.2.2.2.1 d.2.2.2.2.2.2.2.2.2.2.2.2.2.2.1 d.2.2.2.2.2.2.2.2.2.2.2.2.2.2.2.1 d.2.2.2.2.2.2.2.2.2.2.2.2.2.2.2.2.1 d.2.2.2.2.2.2.2.2.2.2.2.2.2.2.2.2.2.1 d.2.2.2.2.2.2.2.2.2.2.2.2.2.2.2.2.2.2.1 d.2.2.2.2.2.2.2.2.2.2.2.2.2.2.2.2.2.2.2.1 d.2.2.2.2.2.2.2.2.2.2.2.2.2.2.2.2.2.2.2.2.1 d.2.2.2.2.2.2.2.2.2.2.2.2.2.2.2.2.2.2.2.2.2.1 d.2.2.2.2.2.2.2.2.2.2.2.2.2.2.2.2.2.2.2.2.2.2.1 d.2.2.2.2.2.2.2.2.2.2.2.2.2.2.2.2.2.2.2.2.2.2.2.1 l=some (pC d l):=by
 have hl:=ck (round:=ig) (e:=.inl (pC d l)) l.length (fun k=>(d.1,d.2.1,d.2.2.1,d.2.2.2.1,d.2.2.2.2.1,d.2.2.2.2.2.1,d.2.2.2.2.2.2.1,d.2.2.2.2.2.2.2.1,d.2.2.2.2.2.2.2.2.1,d.2.2.2.2.2.2.2.2.2.1,d.2.2.2.2.2.2.2.2.2.2.1,d.2.2.2.2.2.2.2.2.2.2.2.1,d.2.2.2.2.2.2.2.2.2.2.2.2.1,d.2.2.2.2.2.2.2.2.2.2.2.2.2.1,d.2.2.2.2.2.2.2.2.2.2.2.2.2.2.1,d.2.2.2.2.2.2.2.2.2.2.2.2.2.2.2.1,d.2.2.2.2.2.2.2.2.2.2.2.2.2.2.2.2.1,d.2.2.2.2.2.2.2.2.2.2.2.2.2.2.2.2.2.1,d.2.2.2.2.2.2.2.2.2.2.2.2.2.2.2.2.2.2.1,d.2.2.2.2.2.2.2.2.2.2.2.2.2.2.2.2.2.2.2.1,d.2.2.2.2.2.2.2.2.2.2.2.2.2.2.2.2.2.2.2.2.1,d.2.2.2.2.2.2.2.2.2.2.2.2.2.2.2.2.2.2.2.2.2.1,d.2.2.2.2.2.2.2.2.2.2.2.2.2.2.2.2.2.2.2.2.2.2.1,d.2.2.2.2.2.2.2.2.2.2.2.2.2.2.2.2.2.2.2.2.2.2.2.1++fE d.2.2.2.1 d.2.2.2.2.1 (l.take k),l,((List.length l:Nat):Int),((k:Nat):Int),())) (by
  simp only [ig,az,pQ,aA,aN,cond_false,List.take_length,pC]) (fun k hk=>by
  have hlen:(d.2.2.2.2.2.2.2.2.2.2.2.2.2.2.2.2.2.2.2.2.2.2.2.1++fE d.2.2.2.1 d.2.2.2.2.1 (l.take k)).length≤1048576+1048576:=by
   rw [List.length_append,oz,List.length_take];omega
  simp only [ig,az,pQ,aA,aF hk,ax,cond_true,aG,List.getElem?_eq_getElem hk,Option.bind_some,mQ _ _ hr,aS (show ((d.2.2.2.2.2.2.2.2.2.2.2.2.2.2.2.2.2.2.2.2.2.2.2.1++fE d.2.2.2.1 d.2.2.2.2.1 (l.take k)).length+1)*104≤lim by unfold lim;omega),aM (show k<4611686018427387904 by omega)];rw [Em hk])
 have hl:aJ ig (d.1,d.2.1,d.2.2.1,d.2.2.2.1,d.2.2.2.2.1,d.2.2.2.2.2.1,d.2.2.2.2.2.2.1,d.2.2.2.2.2.2.2.1,d.2.2.2.2.2.2.2.2.1,d.2.2.2.2.2.2.2.2.2.1,d.2.2.2.2.2.2.2.2.2.2.1,d.2.2.2.2.2.2.2.2.2.2.2.1,d.2.2.2.2.2.2.2.2.2.2.2.2.1,d.2.2.2.2.2.2.2.2.2.2.2.2.2.1,d.2.2.2.2.2.2.2.2.2.2.2.2.2.2.1,d.2.2.2.2.2.2.2.2.2.2.2.2.2.2.2.1,d.2.2.2.2.2.2.2.2.2.2.2.2.2.2.2.2.1,d.2.2.2.2.2.2.2.2.2.2.2.2.2.2.2.2.2.1,d.2.2.2.2.2.2.2.2.2.2.2.2.2.2.2.2.2.2.1,d.2.2.2.2.2.2.2.2.2.2.2.2.2.2.2.2.2.2.2.1,d.2.2.2.2.2.2.2.2.2.2.2.2.2.2.2.2.2.2.2.2.1,d.2.2.2.2.2.2.2.2.2.2.2.2.2.2.2.2.2.2.2.2.2.1,d.2.2.2.2.2.2.2.2.2.2.2.2.2.2.2.2.2.2.2.2.2.2.1,d.2.2.2.2.2.2.2.2.2.2.2.2.2.2.2.2.2.2.2.2.2.2.2.1++[],l,((List.length l:Nat):Int),(0:Int),())=_:=hl;rw [List.append_nil] at hl;unfold mB;rw [hl];rfl
theorem Ym (d:bY) (m:iG) (l:aU) (hr:m.2.2.1.length≤1048576) (hl:l.length≤1048576) (hg:d.2.2.2.2.2.2.2.2.2.2.2.2.2.2.2.2.2.2.2.2.2.2.2.1.length≤1048576):aJ gN (d.1,d.2.1,d.2.2.1,d.2.2.2.1,d.2.2.2.2.1,d.2.2.2.2.2.1,d.2.2.2.2.2.2.1,d.2.2.2.2.2.2.2.1,d.2.2.2.2.2.2.2.2.1,d.2.2.2.2.2.2.2.2.2.1,d.2.2.2.2.2.2.2.2.2.2.1,d.2.2.2.2.2.2.2.2.2.2.2.1,d.2.2.2.2.2.2.2.2.2.2.2.2.1,d.2.2.2.2.2.2.2.2.2.2.2.2.2.1,d.2.2.2.2.2.2.2.2.2.2.2.2.2.2.1,d.2.2.2.2.2.2.2.2.2.2.2.2.2.2.2.1,d.2.2.2.2.2.2.2.2.2.2.2.2.2.2.2.2.1,d.2.2.2.2.2.2.2.2.2.2.2.2.2.2.2.2.2.1,d.2.2.2.2.2.2.2.2.2.2.2.2.2.2.2.2.2.2.1,d.2.2.2.2.2.2.2.2.2.2.2.2.2.2.2.2.2.2.2.1,d.2.2.2.2.2.2.2.2.2.2.2.2.2.2.2.2.2.2.2.2.1,d.2.2.2.2.2.2.2.2.2.2.2.2.2.2.2.2.2.2.2.2.2.1,d.2.2.2.2.2.2.2.2.2.2.2.2.2.2.2.2.2.2.2.2.2.2.1,d.2.2.2.2.2.2.2.2.2.2.2.2.2.2.2.2.2.2.2.2.2.2.2.1,m.1,m.2.1,m.2.2.1,m.2.2.2.1,m.2.2.2.2.1,m.2.2.2.2.2.1,m.2.2.2.2.2.2.1,m.2.2.2.2.2.2.2.1,m.2.2.2.2.2.2.2.2.1,m.2.2.2.2.2.2.2.2.2.1,m.2.2.2.2.2.2.2.2.2.2.1,m.2.2.2.2.2.2.2.2.2.2.2.1,m.2.2.2.2.2.2.2.2.2.2.2.2.1,m.2.2.2.2.2.2.2.2.2.2.2.2.2.1,m.2.2.2.2.2.2.2.2.2.2.2.2.2.2.1,m.2.2.2.2.2.2.2.2.2.2.2.2.2.2.2.1,l,(0:Int),())=some (.inl (d.1,d.2.1,d.2.2.1,d.2.2.2.1,d.2.2.2.2.1,d.2.2.2.2.2.1,d.2.2.2.2.2.2.1,d.2.2.2.2.2.2.2.1,d.2.2.2.2.2.2.2.2.1,d.2.2.2.2.2.2.2.2.2.1,d.2.2.2.2.2.2.2.2.2.2.1,d.2.2.2.2.2.2.2.2.2.2.2.1,d.2.2.2.2.2.2.2.2.2.2.2.2.1,d.2.2.2.2.2.2.2.2.2.2.2.2.2.1,d.2.2.2.2.2.2.2.2.2.2.2.2.2.2.1,d.2.2.2.2.2.2.2.2.2.2.2.2.2.2.2.1,d.2.2.2.2.2.2.2.2.2.2.2.2.2.2.2.2.1,d.2.2.2.2.2.2.2.2.2.2.2.2.2.2.2.2.2.1,d.2.2.2.2.2.2.2.2.2.2.2.2.2.2.2.2.2.2.1,d.2.2.2.2.2.2.2.2.2.2.2.2.2.2.2.2.2.2.2.1,d.2.2.2.2.2.2.2.2.2.2.2.2.2.2.2.2.2.2.2.2.1,d.2.2.2.2.2.2.2.2.2.2.2.2.2.2.2.2.2.2.2.2.2.1,d.2.2.2.2.2.2.2.2.2.2.2.2.2.2.2.2.2.2.2.2.2.2.1,d.2.2.2.2.2.2.2.2.2.2.2.2.2.2.2.2.2.2.2.2.2.2.2.1++fE m.2.1 m.2.2.1 l,())):=by
 have hl:=ck (round:=gN) (e:=.inl (d.1,d.2.1,d.2.2.1,d.2.2.2.1,d.2.2.2.2.1,d.2.2.2.2.2.1,d.2.2.2.2.2.2.1,d.2.2.2.2.2.2.2.1,d.2.2.2.2.2.2.2.2.1,d.2.2.2.2.2.2.2.2.2.1,d.2.2.2.2.2.2.2.2.2.2.1,d.2.2.2.2.2.2.2.2.2.2.2.1,d.2.2.2.2.2.2.2.2.2.2.2.2.1,d.2.2.2.2.2.2.2.2.2.2.2.2.2.1,d.2.2.2.2.2.2.2.2.2.2.2.2.2.2.1,d.2.2.2.2.2.2.2.2.2.2.2.2.2.2.2.1,d.2.2.2.2.2.2.2.2.2.2.2.2.2.2.2.2.1,d.2.2.2.2.2.2.2.2.2.2.2.2.2.2.2.2.2.1,d.2.2.2.2.2.2.2.2.2.2.2.2.2.2.2.2.2.2.1,d.2.2.2.2.2.2.2.2.2.2.2.2.2.2.2.2.2.2.2.1,d.2.2.2.2.2.2.2.2.2.2.2.2.2.2.2.2.2.2.2.2.1,d.2.2.2.2.2.2.2.2.2.2.2.2.2.2.2.2.2.2.2.2.2.1,d.2.2.2.2.2.2.2.2.2.2.2.2.2.2.2.2.2.2.2.2.2.2.1,d.2.2.2.2.2.2.2.2.2.2.2.2.2.2.2.2.2.2.2.2.2.2.2.1++fE m.2.1 m.2.2.1 l,())) l.length (fun k=>(d.1,d.2.1,d.2.2.1,d.2.2.2.1,d.2.2.2.2.1,d.2.2.2.2.2.1,d.2.2.2.2.2.2.1,d.2.2.2.2.2.2.2.1,d.2.2.2.2.2.2.2.2.1,d.2.2.2.2.2.2.2.2.2.1,d.2.2.2.2.2.2.2.2.2.2.1,d.2.2.2.2.2.2.2.2.2.2.2.1,d.2.2.2.2.2.2.2.2.2.2.2.2.1,d.2.2.2.2.2.2.2.2.2.2.2.2.2.1,d.2.2.2.2.2.2.2.2.2.2.2.2.2.2.1,d.2.2.2.2.2.2.2.2.2.2.2.2.2.2.2.1,d.2.2.2.2.2.2.2.2.2.2.2.2.2.2.2.2.1,d.2.2.2.2.2.2.2.2.2.2.2.2.2.2.2.2.2.1,d.2.2.2.2.2.2.2.2.2.2.2.2.2.2.2.2.2.2.1,d.2.2.2.2.2.2.2.2.2.2.2.2.2.2.2.2.2.2.2.1,d.2.2.2.2.2.2.2.2.2.2.2.2.2.2.2.2.2.2.2.2.1,d.2.2.2.2.2.2.2.2.2.2.2.2.2.2.2.2.2.2.2.2.2.1,d.2.2.2.2.2.2.2.2.2.2.2.2.2.2.2.2.2.2.2.2.2.2.1,d.2.2.2.2.2.2.2.2.2.2.2.2.2.2.2.2.2.2.2.2.2.2.2.1++fE m.2.1 m.2.2.1 (l.take k),m.1,m.2.1,m.2.2.1,m.2.2.2.1,m.2.2.2.2.1,m.2.2.2.2.2.1,m.2.2.2.2.2.2.1,m.2.2.2.2.2.2.2.1,m.2.2.2.2.2.2.2.2.1,m.2.2.2.2.2.2.2.2.2.1,m.2.2.2.2.2.2.2.2.2.2.1,m.2.2.2.2.2.2.2.2.2.2.2.1,m.2.2.2.2.2.2.2.2.2.2.2.2.1,m.2.2.2.2.2.2.2.2.2.2.2.2.2.1,m.2.2.2.2.2.2.2.2.2.2.2.2.2.2.1,m.2.2.2.2.2.2.2.2.2.2.2.2.2.2.2.1,l,((k:Nat):Int),())) (by
  simp only [gN,ba,az,tu,aA,aN,cond_false,List.take_length]) (fun k hk=>by
  have hlen:(d.2.2.2.2.2.2.2.2.2.2.2.2.2.2.2.2.2.2.2.2.2.2.2.1++fE m.2.1 m.2.2.1 (l.take k)).length≤1048576+1048576:=by
   rw [List.length_append,oz,List.length_take];omega
  simp only [gN,ba,az,tu,aA,aF hk,ax,cond_true,aG,fZ hk,List.getElem?_eq_getElem hk,Option.bind_some,mR _ _ hr,aS (show ((d.2.2.2.2.2.2.2.2.2.2.2.2.2.2.2.2.2.2.2.2.2.2.2.1++fE m.2.1 m.2.2.1 (l.take k)).length+1)*104≤lim by unfold lim;omega),aM (show k<4611686018427387904 by omega)];rw [Em hk])
 have hl:aJ gN (d.1,d.2.1,d.2.2.1,d.2.2.2.1,d.2.2.2.2.1,d.2.2.2.2.2.1,d.2.2.2.2.2.2.1,d.2.2.2.2.2.2.2.1,d.2.2.2.2.2.2.2.2.1,d.2.2.2.2.2.2.2.2.2.1,d.2.2.2.2.2.2.2.2.2.2.1,d.2.2.2.2.2.2.2.2.2.2.2.1,d.2.2.2.2.2.2.2.2.2.2.2.2.1,d.2.2.2.2.2.2.2.2.2.2.2.2.2.1,d.2.2.2.2.2.2.2.2.2.2.2.2.2.2.1,d.2.2.2.2.2.2.2.2.2.2.2.2.2.2.2.1,d.2.2.2.2.2.2.2.2.2.2.2.2.2.2.2.2.1,d.2.2.2.2.2.2.2.2.2.2.2.2.2.2.2.2.2.1,d.2.2.2.2.2.2.2.2.2.2.2.2.2.2.2.2.2.2.1,d.2.2.2.2.2.2.2.2.2.2.2.2.2.2.2.2.2.2.2.1,d.2.2.2.2.2.2.2.2.2.2.2.2.2.2.2.2.2.2.2.2.1,d.2.2.2.2.2.2.2.2.2.2.2.2.2.2.2.2.2.2.2.2.2.1,d.2.2.2.2.2.2.2.2.2.2.2.2.2.2.2.2.2.2.2.2.2.2.1,d.2.2.2.2.2.2.2.2.2.2.2.2.2.2.2.2.2.2.2.2.2.2.2.1++[],m.1,m.2.1,m.2.2.1,m.2.2.2.1,m.2.2.2.2.1,m.2.2.2.2.2.1,m.2.2.2.2.2.2.1,m.2.2.2.2.2.2.2.1,m.2.2.2.2.2.2.2.2.1,m.2.2.2.2.2.2.2.2.2.1,m.2.2.2.2.2.2.2.2.2.2.1,m.2.2.2.2.2.2.2.2.2.2.2.1,m.2.2.2.2.2.2.2.2.2.2.2.2.1,m.2.2.2.2.2.2.2.2.2.2.2.2.2.1,m.2.2.2.2.2.2.2.2.2.2.2.2.2.2.1,m.2.2.2.2.2.2.2.2.2.2.2.2.2.2.2.1,l,(0:Int),())=_:=hl;rw [List.append_nil] at hl;exact hl
noncomputable def tU (d:bY):bY:=pC (fA d (ch (aE d)).1) (ch (aE d)).2
theorem IU (d:bY) (h0:mg (aE d)≤1048576) (hg:d.2.2.2.2.2.2.2.2.2.2.2.2.2.2.2.2.2.2.2.2.2.2.2.1.length≤1048576):kD d.1 d.2.1 d.2.2.1 d.2.2.2.1 d.2.2.2.2.1 d.2.2.2.2.2.1 d.2.2.2.2.2.2.1 d.2.2.2.2.2.2.2.1 d.2.2.2.2.2.2.2.2.1 d.2.2.2.2.2.2.2.2.2.1 d.2.2.2.2.2.2.2.2.2.2.1 d.2.2.2.2.2.2.2.2.2.2.2.1 d.2.2.2.2.2.2.2.2.2.2.2.2.1 d.2.2.2.2.2.2.2.2.2.2.2.2.2.1 d.2.2.2.2.2.2.2.2.2.2.2.2.2.2.1 d.2.2.2.2.2.2.2.2.2.2.2.2.2.2.2.1 d.2.2.2.2.2.2.2.2.2.2.2.2.2.2.2.2.1 d.2.2.2.2.2.2.2.2.2.2.2.2.2.2.2.2.2.1 d.2.2.2.2.2.2.2.2.2.2.2.2.2.2.2.2.2.2.1 d.2.2.2.2.2.2.2.2.2.2.2.2.2.2.2.2.2.2.2.1 d.2.2.2.2.2.2.2.2.2.2.2.2.2.2.2.2.2.2.2.2.1 d.2.2.2.2.2.2.2.2.2.2.2.2.2.2.2.2.2.2.2.2.2.1 d.2.2.2.2.2.2.2.2.2.2.2.2.2.2.2.2.2.2.2.2.2.2.1 d.2.2.2.2.2.2.2.2.2.2.2.2.2.2.2.2.2.2.2.2.2.2.2.1=some (tU d)∧gi d.1 d.2.1 d.2.2.1 d.2.2.2.1 d.2.2.2.2.1 d.2.2.2.2.2.1 d.2.2.2.2.2.2.1 d.2.2.2.2.2.2.2.1 d.2.2.2.2.2.2.2.2.1 d.2.2.2.2.2.2.2.2.2.1 d.2.2.2.2.2.2.2.2.2.2.1 d.2.2.2.2.2.2.2.2.2.2.2.1 d.2.2.2.2.2.2.2.2.2.2.2.2.1 d.2.2.2.2.2.2.2.2.2.2.2.2.2.1 d.2.2.2.2.2.2.2.2.2.2.2.2.2.2.1 d.2.2.2.2.2.2.2.2.2.2.2.2.2.2.2.1 d.2.2.2.2.2.2.2.2.2.2.2.2.2.2.2.2.1 d.2.2.2.2.2.2.2.2.2.2.2.2.2.2.2.2.2.1 d.2.2.2.2.2.2.2.2.2.2.2.2.2.2.2.2.2.2.1 d.2.2.2.2.2.2.2.2.2.2.2.2.2.2.2.2.2.2.2.1 d.2.2.2.2.2.2.2.2.2.2.2.2.2.2.2.2.2.2.2.2.1 d.2.2.2.2.2.2.2.2.2.2.2.2.2.2.2.2.2.2.2.2.2.1 d.2.2.2.2.2.2.2.2.2.2.2.2.2.2.2.2.2.2.2.2.2.2.1 d.2.2.2.2.2.2.2.2.2.2.2.2.2.2.2.2.2.2.2.2.2.2.2.1=some (tU d):=by
 obtain ⟨s1,s2⟩:=Uq (aE d) h0;obtain ⟨z1,z2,_⟩:=Ur (aE d) h0;have s1:oa d.2.2.1 d.2.2.2.1 d.2.2.2.2.1 d.2.2.2.2.2.1 d.2.2.2.2.2.2.1 d.2.2.2.2.2.2.2.1 d.2.2.2.2.2.2.2.2.1 d.2.2.2.2.2.2.2.2.2.1 d.2.2.2.2.2.2.2.2.2.2.1 d.2.2.2.2.2.2.2.2.2.2.2.1 d.2.2.2.2.2.2.2.2.2.2.2.2.1 d.2.2.2.2.2.2.2.2.2.2.2.2.2.1 d.2.2.2.2.2.2.2.2.2.2.2.2.2.2.1 d.2.2.2.2.2.2.2.2.2.2.2.2.2.2.2.1 d.2.2.2.2.2.2.2.2.2.2.2.2.2.2.2.2.1 d.2.2.2.2.2.2.2.2.2.2.2.2.2.2.2.2.2.1=some ((ch (aE d)).1.1,(ch (aE d)).1.2.1,(ch (aE d)).1.2.2.1,(ch (aE d)).1.2.2.2.1,(ch (aE d)).1.2.2.2.2.1,(ch (aE d)).1.2.2.2.2.2.1,(ch (aE d)).1.2.2.2.2.2.2.1,(ch (aE d)).1.2.2.2.2.2.2.2.1,(ch (aE d)).1.2.2.2.2.2.2.2.2.1,(ch (aE d)).1.2.2.2.2.2.2.2.2.2.1,(ch (aE d)).1.2.2.2.2.2.2.2.2.2.2.1,(ch (aE d)).1.2.2.2.2.2.2.2.2.2.2.2.1,(ch (aE d)).1.2.2.2.2.2.2.2.2.2.2.2.2.1,(ch (aE d)).1.2.2.2.2.2.2.2.2.2.2.2.2.2.1,(ch (aE d)).1.2.2.2.2.2.2.2.2.2.2.2.2.2.2.1,(ch (aE d)).1.2.2.2.2.2.2.2.2.2.2.2.2.2.2.2.1,(ch (aE d)).2,()):=s1;have s2:pY d.2.2.1 d.2.2.2.1 d.2.2.2.2.1 d.2.2.2.2.2.1 d.2.2.2.2.2.2.1 d.2.2.2.2.2.2.2.1 d.2.2.2.2.2.2.2.2.1 d.2.2.2.2.2.2.2.2.2.1 d.2.2.2.2.2.2.2.2.2.2.1 d.2.2.2.2.2.2.2.2.2.2.2.1 d.2.2.2.2.2.2.2.2.2.2.2.2.1 d.2.2.2.2.2.2.2.2.2.2.2.2.2.1 d.2.2.2.2.2.2.2.2.2.2.2.2.2.2.1 d.2.2.2.2.2.2.2.2.2.2.2.2.2.2.2.1 d.2.2.2.2.2.2.2.2.2.2.2.2.2.2.2.2.1 d.2.2.2.2.2.2.2.2.2.2.2.2.2.2.2.2.2.1=some ((ch (aE d)).1.1,(ch (aE d)).1.2.1,(ch (aE d)).1.2.2.1,(ch (aE d)).1.2.2.2.1,(ch (aE d)).1.2.2.2.2.1,(ch (aE d)).1.2.2.2.2.2.1,(ch (aE d)).1.2.2.2.2.2.2.1,(ch (aE d)).1.2.2.2.2.2.2.2.1,(ch (aE d)).1.2.2.2.2.2.2.2.2.1,(ch (aE d)).1.2.2.2.2.2.2.2.2.2.1,(ch (aE d)).1.2.2.2.2.2.2.2.2.2.2.1,(ch (aE d)).1.2.2.2.2.2.2.2.2.2.2.2.1,(ch (aE d)).1.2.2.2.2.2.2.2.2.2.2.2.2.1,(ch (aE d)).1.2.2.2.2.2.2.2.2.2.2.2.2.2.1,(ch (aE d)).1.2.2.2.2.2.2.2.2.2.2.2.2.2.2.1,(ch (aE d)).1.2.2.2.2.2.2.2.2.2.2.2.2.2.2.2.1,(ch (aE d)).2,()):=s2;have hr:(ch (aE d)).1.2.2.1.length≤1048576:=by
  have:(ch (aE d)).1.2.2.1.length≤mg (ch (aE d)).1:=by unfold mg;omega
  omega
 unfold tU;generalize ch (aE d)=q at s1 s2 z2 hr;obtain ⟨m,l⟩:=q;have z2:l.length≤60:=z2;have e1:=Ym (fA d m) m l hr (by omega) hg;have e2:=Yl (fA d m) l hr (by omega) hg
 constructor
 ·unfold kD;delta cS;simp only [s1,Option.bind_some];have e1:aJ gN (d.1,d.2.1,m.1,m.2.1,m.2.2.1,m.2.2.2.1,m.2.2.2.2.1,m.2.2.2.2.2.1,m.2.2.2.2.2.2.1,m.2.2.2.2.2.2.2.1,m.2.2.2.2.2.2.2.2.1,m.2.2.2.2.2.2.2.2.2.1,m.2.2.2.2.2.2.2.2.2.2.1,m.2.2.2.2.2.2.2.2.2.2.2.1,m.2.2.2.2.2.2.2.2.2.2.2.2.1,m.2.2.2.2.2.2.2.2.2.2.2.2.2.1,m.2.2.2.2.2.2.2.2.2.2.2.2.2.2.1,m.2.2.2.2.2.2.2.2.2.2.2.2.2.2.2.1,d.2.2.2.2.2.2.2.2.2.2.2.2.2.2.2.2.2.2.1,d.2.2.2.2.2.2.2.2.2.2.2.2.2.2.2.2.2.2.2.1,d.2.2.2.2.2.2.2.2.2.2.2.2.2.2.2.2.2.2.2.2.1,d.2.2.2.2.2.2.2.2.2.2.2.2.2.2.2.2.2.2.2.2.2.1,d.2.2.2.2.2.2.2.2.2.2.2.2.2.2.2.2.2.2.2.2.2.2.1,d.2.2.2.2.2.2.2.2.2.2.2.2.2.2.2.2.2.2.2.2.2.2.2.1,m.1,m.2.1,m.2.2.1,m.2.2.2.1,m.2.2.2.2.1,m.2.2.2.2.2.1,m.2.2.2.2.2.2.1,m.2.2.2.2.2.2.2.1,m.2.2.2.2.2.2.2.2.1,m.2.2.2.2.2.2.2.2.2.1,m.2.2.2.2.2.2.2.2.2.2.1,m.2.2.2.2.2.2.2.2.2.2.2.1,m.2.2.2.2.2.2.2.2.2.2.2.2.1,m.2.2.2.2.2.2.2.2.2.2.2.2.2.1,m.2.2.2.2.2.2.2.2.2.2.2.2.2.2.1,m.2.2.2.2.2.2.2.2.2.2.2.2.2.2.2.1,l,(0:Int),())=_:=e1;rw [e1];rfl
 ·unfold gi;delta ba;simp only [s2,Option.bind_some];have e2:mB d.1 d.2.1 m.1 m.2.1 m.2.2.1 m.2.2.2.1 m.2.2.2.2.1 m.2.2.2.2.2.1 m.2.2.2.2.2.2.1 m.2.2.2.2.2.2.2.1 m.2.2.2.2.2.2.2.2.1 m.2.2.2.2.2.2.2.2.2.1 m.2.2.2.2.2.2.2.2.2.2.1 m.2.2.2.2.2.2.2.2.2.2.2.1 m.2.2.2.2.2.2.2.2.2.2.2.2.1 m.2.2.2.2.2.2.2.2.2.2.2.2.2.1 m.2.2.2.2.2.2.2.2.2.2.2.2.2.2.1 m.2.2.2.2.2.2.2.2.2.2.2.2.2.2.2.1 d.2.2.2.2.2.2.2.2.2.2.2.2.2.2.2.2.2.2.1 d.2.2.2.2.2.2.2.2.2.2.2.2.2.2.2.2.2.2.2.1 d.2.2.2.2.2.2.2.2.2.2.2.2.2.2.2.2.2.2.2.2.1 d.2.2.2.2.2.2.2.2.2.2.2.2.2.2.2.2.2.2.2.2.2.1 d.2.2.2.2.2.2.2.2.2.2.2.2.2.2.2.2.2.2.2.2.2.2.1 d.2.2.2.2.2.2.2.2.2.2.2.2.2.2.2.2.2.2.2.2.2.2.2.1 l=_:=e2;rw [e2];rfl
noncomputable def fR (d:bY):Bool:=jU d&&(!d.2.1&&(decide (0<d.2.2.2.2.2.2.2.2.2.2.2.2.2.2.2.2.2.2.2.1)&&decide (d.2.2.2.2.2.2.2.2.2.2.2.2.2.2.2.2.2.2.2.2.1=0)))
theorem OK (d:bY) (h:ow d≤1048576) (hi:fR d=true):ye d∧qW (aE d)∧d.2.1=false∧d.2.2.2.2.2.2.2.2.2.2.2.2.2.2.2.2.2.2.2.2.1=0∧0<d.2.2.2.2.2.2.2.2.2.2.2.2.2.2.2.2.2.2.2.1∧d.2.2.2.2.2.2.2.2.2.2.2.2.2.2.2.2.2.2.2.1=d.2.2.2.1:=by
 unfold fR at hi;simp only [Bool.and_eq_true,decide_eq_true_eq,Bool.not_eq_true'] at hi;obtain ⟨h1,h2,h3,h4⟩:=hi;have q:=(m7 d h).2.2.1 h1;refine ⟨q,?_,h2,h4,h3,q.old.1⟩;rcases q.tS with g | ⟨g,_⟩
 ·have:d.2.2.2.1=0:=g.2.1;have:=q.old.1;omega
 ·exact g
theorem C3 (d:bY) (h:ow d≤1048576):(!decide (d.2.2.2.1=0)&&decide (d.2.2.2.2.2.2.2.2.2.2.2.2.2.2.2.2.2.2.2.2.1=0)&&jU d)=fR d:=by
 unfold fR
 cases hb:jU d
 ·simp
 have q:=(m7 d h).2.2.1 hb
 by_cases ho:d.2.2.2.1=0
 ·have:¬0<d.2.2.2.2.2.2.2.2.2.2.2.2.2.2.2.2.2.2.2.1:=by have:=q.old.1;omega
  rw [ak ho,aq this]
  cases d.2.1<;>rfl
 ·have hm:qW (aE d):=by
   rcases q.tS with g | ⟨g,_⟩
   ·exact absurd g.2.1 ho
   ·exact g
  have h1:1≤d.2.2.2.1:=hm.ring.1.1;have hd:d.2.1=false:=by
   cases hd:d.2.1
   ·rfl
   ·exact absurd (q.dead hd).1.2.1 ho
  have:0<d.2.2.2.2.2.2.2.2.2.2.2.2.2.2.2.2.2.2.2.1:=by have:=q.old.1;omega
  rw [aq ho,ak this,hd]
  cases decide (d.2.2.2.2.2.2.2.2.2.2.2.2.2.2.2.2.2.2.2.2.1=0)<;>rfl
noncomputable def vd (d:bY) (ri:Int) (x:dY):bY:=bif fR d&&decide (d.2.2.2.2.2.2.2.2.2.2.2.2.2.2.2.2.2.2.2.1=ri) then tU (fA d (qY (aE d) x)) else d
theorem JO (d:bY) (ri:Int) (x:dY) (m:iG) (r:bY) (p1:cq d.1 d.2.1 d.2.2.1 d.2.2.2.1 d.2.2.2.2.1 d.2.2.2.2.2.1 d.2.2.2.2.2.2.1 d.2.2.2.2.2.2.2.1 d.2.2.2.2.2.2.2.2.1 d.2.2.2.2.2.2.2.2.2.1 d.2.2.2.2.2.2.2.2.2.2.1 d.2.2.2.2.2.2.2.2.2.2.2.1 d.2.2.2.2.2.2.2.2.2.2.2.2.1 d.2.2.2.2.2.2.2.2.2.2.2.2.2.1 d.2.2.2.2.2.2.2.2.2.2.2.2.2.2.1 d.2.2.2.2.2.2.2.2.2.2.2.2.2.2.2.1 d.2.2.2.2.2.2.2.2.2.2.2.2.2.2.2.2.1 d.2.2.2.2.2.2.2.2.2.2.2.2.2.2.2.2.2.1 d.2.2.2.2.2.2.2.2.2.2.2.2.2.2.2.2.2.2.1 d.2.2.2.2.2.2.2.2.2.2.2.2.2.2.2.2.2.2.2.1 d.2.2.2.2.2.2.2.2.2.2.2.2.2.2.2.2.2.2.2.2.1 d.2.2.2.2.2.2.2.2.2.2.2.2.2.2.2.2.2.2.2.2.2.1 d.2.2.2.2.2.2.2.2.2.2.2.2.2.2.2.2.2.2.2.2.2.2.1 d.2.2.2.2.2.2.2.2.2.2.2.2.2.2.2.2.2.2.2.2.2.2.2.1=some d) (hi:fi d.1 d.2.1 d.2.2.1 d.2.2.2.1 d.2.2.2.2.1 d.2.2.2.2.2.1 d.2.2.2.2.2.2.1 d.2.2.2.2.2.2.2.1 d.2.2.2.2.2.2.2.2.1 d.2.2.2.2.2.2.2.2.2.1 d.2.2.2.2.2.2.2.2.2.2.1 d.2.2.2.2.2.2.2.2.2.2.2.1 d.2.2.2.2.2.2.2.2.2.2.2.2.1 d.2.2.2.2.2.2.2.2.2.2.2.2.2.1 d.2.2.2.2.2.2.2.2.2.2.2.2.2.2.1 d.2.2.2.2.2.2.2.2.2.2.2.2.2.2.2.1 d.2.2.2.2.2.2.2.2.2.2.2.2.2.2.2.2.1 d.2.2.2.2.2.2.2.2.2.2.2.2.2.2.2.2.2.1 d.2.2.2.2.2.2.2.2.2.2.2.2.2.2.2.2.2.2.1 d.2.2.2.2.2.2.2.2.2.2.2.2.2.2.2.2.2.2.2.1 d.2.2.2.2.2.2.2.2.2.2.2.2.2.2.2.2.2.2.2.2.1 d.2.2.2.2.2.2.2.2.2.2.2.2.2.2.2.2.2.2.2.2.2.1 d.2.2.2.2.2.2.2.2.2.2.2.2.2.2.2.2.2.2.2.2.2.2.1 d.2.2.2.2.2.2.2.2.2.2.2.2.2.2.2.2.2.2.2.2.2.2.2.1=some (fR d,())) (c1:vU d.2.2.1 d.2.2.2.1 d.2.2.2.2.1 d.2.2.2.2.2.1 d.2.2.2.2.2.2.1 d.2.2.2.2.2.2.2.1 d.2.2.2.2.2.2.2.2.1 d.2.2.2.2.2.2.2.2.2.1 d.2.2.2.2.2.2.2.2.2.2.1 d.2.2.2.2.2.2.2.2.2.2.2.1 d.2.2.2.2.2.2.2.2.2.2.2.2.1 d.2.2.2.2.2.2.2.2.2.2.2.2.2.1 d.2.2.2.2.2.2.2.2.2.2.2.2.2.2.1 d.2.2.2.2.2.2.2.2.2.2.2.2.2.2.2.1 d.2.2.2.2.2.2.2.2.2.2.2.2.2.2.2.2.1 d.2.2.2.2.2.2.2.2.2.2.2.2.2.2.2.2.2.1 x.1 x.2.1 x.2.2.1 x.2.2.2.1=some m)
  (e1:kD d.1 d.2.1 m.1 m.2.1 m.2.2.1 m.2.2.2.1 m.2.2.2.2.1 m.2.2.2.2.2.1 m.2.2.2.2.2.2.1 m.2.2.2.2.2.2.2.1 m.2.2.2.2.2.2.2.2.1 m.2.2.2.2.2.2.2.2.2.1 m.2.2.2.2.2.2.2.2.2.2.1 m.2.2.2.2.2.2.2.2.2.2.2.1 m.2.2.2.2.2.2.2.2.2.2.2.2.1 m.2.2.2.2.2.2.2.2.2.2.2.2.2.1 m.2.2.2.2.2.2.2.2.2.2.2.2.2.2.1 m.2.2.2.2.2.2.2.2.2.2.2.2.2.2.2.1 d.2.2.2.2.2.2.2.2.2.2.2.2.2.2.2.2.2.2.1 d.2.2.2.2.2.2.2.2.2.2.2.2.2.2.2.2.2.2.2.1 d.2.2.2.2.2.2.2.2.2.2.2.2.2.2.2.2.2.2.2.2.1 d.2.2.2.2.2.2.2.2.2.2.2.2.2.2.2.2.2.2.2.2.2.1 d.2.2.2.2.2.2.2.2.2.2.2.2.2.2.2.2.2.2.2.2.2.2.1 d.2.2.2.2.2.2.2.2.2.2.2.2.2.2.2.2.2.2.2.2.2.2.2.1=some r):mL d.1 d.2.1 d.2.2.1 d.2.2.2.1 d.2.2.2.2.1 d.2.2.2.2.2.1 d.2.2.2.2.2.2.1 d.2.2.2.2.2.2.2.1 d.2.2.2.2.2.2.2.2.1 d.2.2.2.2.2.2.2.2.2.1 d.2.2.2.2.2.2.2.2.2.2.1 d.2.2.2.2.2.2.2.2.2.2.2.1 d.2.2.2.2.2.2.2.2.2.2.2.2.1 d.2.2.2.2.2.2.2.2.2.2.2.2.2.1 d.2.2.2.2.2.2.2.2.2.2.2.2.2.2.1 d.2.2.2.2.2.2.2.2.2.2.2.2.2.2.2.1 d.2.2.2.2.2.2.2.2.2.2.2.2.2.2.2.2.1 d.2.2.2.2.2.2.2.2.2.2.2.2.2.2.2.2.2.1 d.2.2.2.2.2.2.2.2.2.2.2.2.2.2.2.2.2.2.1 d.2.2.2.2.2.2.2.2.2.2.2.2.2.2.2.2.2.2.2.1 d.2.2.2.2.2.2.2.2.2.2.2.2.2.2.2.2.2.2.2.2.1 d.2.2.2.2.2.2.2.2.2.2.2.2.2.2.2.2.2.2.2.2.2.1 d.2.2.2.2.2.2.2.2.2.2.2.2.2.2.2.2.2.2.2.2.2.2.1 d.2.2.2.2.2.2.2.2.2.2.2.2.2.2.2.2.2.2.2.2.2.2.2.1 ri x.1 x.2.1 x.2.2.1 x.2.2.2.1=some (bif fR d&&decide (d.2.2.2.2.2.2.2.2.2.2.2.2.2.2.2.2.2.2.2.1=ri) then r else d):=by
 unfold mL;delta ba aT;rw [p1,Option.bind_some,hi,Option.bind_some]
 cases fR d
 ·rfl
 ·cases decide (d.2.2.2.2.2.2.2.2.2.2.2.2.2.2.2.2.2.2.2.1=ri)
  ·rfl
  ·rw [cond_true,cond_true,c1,Option.bind_some,e1,Option.bind_some];rfl
theorem JP (d:bY) (ri:Int) (x:dY) (m:iG) (r:bY) (p2:ee d.1 d.2.1 d.2.2.1 d.2.2.2.1 d.2.2.2.2.1 d.2.2.2.2.2.1 d.2.2.2.2.2.2.1 d.2.2.2.2.2.2.2.1 d.2.2.2.2.2.2.2.2.1 d.2.2.2.2.2.2.2.2.2.1 d.2.2.2.2.2.2.2.2.2.2.1 d.2.2.2.2.2.2.2.2.2.2.2.1 d.2.2.2.2.2.2.2.2.2.2.2.2.1 d.2.2.2.2.2.2.2.2.2.2.2.2.2.1 d.2.2.2.2.2.2.2.2.2.2.2.2.2.2.1 d.2.2.2.2.2.2.2.2.2.2.2.2.2.2.2.1 d.2.2.2.2.2.2.2.2.2.2.2.2.2.2.2.2.1 d.2.2.2.2.2.2.2.2.2.2.2.2.2.2.2.2.2.1 d.2.2.2.2.2.2.2.2.2.2.2.2.2.2.2.2.2.2.1 d.2.2.2.2.2.2.2.2.2.2.2.2.2.2.2.2.2.2.2.1 d.2.2.2.2.2.2.2.2.2.2.2.2.2.2.2.2.2.2.2.2.1 d.2.2.2.2.2.2.2.2.2.2.2.2.2.2.2.2.2.2.2.2.2.1 d.2.2.2.2.2.2.2.2.2.2.2.2.2.2.2.2.2.2.2.2.2.2.1 d.2.2.2.2.2.2.2.2.2.2.2.2.2.2.2.2.2.2.2.2.2.2.2.1=some d) (k2:dW d.1 d.2.1 d.2.2.1 d.2.2.2.1 d.2.2.2.2.1 d.2.2.2.2.2.1 d.2.2.2.2.2.2.1 d.2.2.2.2.2.2.2.1 d.2.2.2.2.2.2.2.2.1 d.2.2.2.2.2.2.2.2.2.1 d.2.2.2.2.2.2.2.2.2.2.1 d.2.2.2.2.2.2.2.2.2.2.2.1 d.2.2.2.2.2.2.2.2.2.2.2.2.1 d.2.2.2.2.2.2.2.2.2.2.2.2.2.1 d.2.2.2.2.2.2.2.2.2.2.2.2.2.2.1 d.2.2.2.2.2.2.2.2.2.2.2.2.2.2.2.1 d.2.2.2.2.2.2.2.2.2.2.2.2.2.2.2.2.1 d.2.2.2.2.2.2.2.2.2.2.2.2.2.2.2.2.2.1 d.2.2.2.2.2.2.2.2.2.2.2.2.2.2.2.2.2.2.1 d.2.2.2.2.2.2.2.2.2.2.2.2.2.2.2.2.2.2.2.1 d.2.2.2.2.2.2.2.2.2.2.2.2.2.2.2.2.2.2.2.2.1 d.2.2.2.2.2.2.2.2.2.2.2.2.2.2.2.2.2.2.2.2.2.1 d.2.2.2.2.2.2.2.2.2.2.2.2.2.2.2.2.2.2.2.2.2.2.1 d.2.2.2.2.2.2.2.2.2.2.2.2.2.2.2.2.2.2.2.2.2.2.2.1=some (jU d,())) (hq:(!decide (d.2.2.2.1=0)&&decide (d.2.2.2.2.2.2.2.2.2.2.2.2.2.2.2.2.2.2.2.2.1=0)&&jU d)=fR d) (YT:fR d=true→d.2.2.2.2.2.2.2.2.2.2.2.2.2.2.2.2.2.2.2.1=d.2.2.2.1) (c2:wk d.2.2.1 d.2.2.2.1 d.2.2.2.2.1 d.2.2.2.2.2.1 d.2.2.2.2.2.2.1 d.2.2.2.2.2.2.2.1 d.2.2.2.2.2.2.2.2.1 d.2.2.2.2.2.2.2.2.2.1 d.2.2.2.2.2.2.2.2.2.2.1 d.2.2.2.2.2.2.2.2.2.2.2.1 d.2.2.2.2.2.2.2.2.2.2.2.2.1 d.2.2.2.2.2.2.2.2.2.2.2.2.2.1 d.2.2.2.2.2.2.2.2.2.2.2.2.2.2.1 d.2.2.2.2.2.2.2.2.2.2.2.2.2.2.2.1 d.2.2.2.2.2.2.2.2.2.2.2.2.2.2.2.2.1 d.2.2.2.2.2.2.2.2.2.2.2.2.2.2.2.2.2.1 x.1 x.2.1 x.2.2.1 x.2.2.2.1=some m)
  (e2:gi d.1 d.2.1 m.1 m.2.1 m.2.2.1 m.2.2.2.1 m.2.2.2.2.1 m.2.2.2.2.2.1 m.2.2.2.2.2.2.1 m.2.2.2.2.2.2.2.1 m.2.2.2.2.2.2.2.2.1 m.2.2.2.2.2.2.2.2.2.1 m.2.2.2.2.2.2.2.2.2.2.1 m.2.2.2.2.2.2.2.2.2.2.2.1 m.2.2.2.2.2.2.2.2.2.2.2.2.1 m.2.2.2.2.2.2.2.2.2.2.2.2.2.1 m.2.2.2.2.2.2.2.2.2.2.2.2.2.2.1 m.2.2.2.2.2.2.2.2.2.2.2.2.2.2.2.1 d.2.2.2.2.2.2.2.2.2.2.2.2.2.2.2.2.2.2.1 d.2.2.2.2.2.2.2.2.2.2.2.2.2.2.2.2.2.2.2.1 d.2.2.2.2.2.2.2.2.2.2.2.2.2.2.2.2.2.2.2.2.1 d.2.2.2.2.2.2.2.2.2.2.2.2.2.2.2.2.2.2.2.2.2.1 d.2.2.2.2.2.2.2.2.2.2.2.2.2.2.2.2.2.2.2.2.2.2.1 d.2.2.2.2.2.2.2.2.2.2.2.2.2.2.2.2.2.2.2.2.2.2.2.1=some r):sD d.1 d.2.1 d.2.2.1 d.2.2.2.1 d.2.2.2.2.1 d.2.2.2.2.2.1 d.2.2.2.2.2.2.1 d.2.2.2.2.2.2.2.1 d.2.2.2.2.2.2.2.2.1 d.2.2.2.2.2.2.2.2.2.1 d.2.2.2.2.2.2.2.2.2.2.1 d.2.2.2.2.2.2.2.2.2.2.2.1 d.2.2.2.2.2.2.2.2.2.2.2.2.1 d.2.2.2.2.2.2.2.2.2.2.2.2.2.1 d.2.2.2.2.2.2.2.2.2.2.2.2.2.2.1 d.2.2.2.2.2.2.2.2.2.2.2.2.2.2.2.1 d.2.2.2.2.2.2.2.2.2.2.2.2.2.2.2.2.1 d.2.2.2.2.2.2.2.2.2.2.2.2.2.2.2.2.2.1 d.2.2.2.2.2.2.2.2.2.2.2.2.2.2.2.2.2.2.1 d.2.2.2.2.2.2.2.2.2.2.2.2.2.2.2.2.2.2.2.1 d.2.2.2.2.2.2.2.2.2.2.2.2.2.2.2.2.2.2.2.2.1 d.2.2.2.2.2.2.2.2.2.2.2.2.2.2.2.2.2.2.2.2.2.1 d.2.2.2.2.2.2.2.2.2.2.2.2.2.2.2.2.2.2.2.2.2.2.1 d.2.2.2.2.2.2.2.2.2.2.2.2.2.2.2.2.2.2.2.2.2.2.2.1 ri x.1 x.2.1 x.2.2.1 x.2.2.2.1=some (bif fR d&&decide (d.2.2.2.2.2.2.2.2.2.2.2.2.2.2.2.2.2.2.2.1=ri) then r else d):=by
 unfold sD gH;delta ba az aT;rw [p2,Option.bind_some];rw [←hq] at YT ⊢
 cases ho:decide (d.2.2.2.1=0)
 ·cases hj:decide (d.2.2.2.2.2.2.2.2.2.2.2.2.2.2.2.2.2.2.2.2.1=0)
  ·rfl
  ·rw [ho,hj] at YT;simp only [Bool.not_false,cond_true,Option.bind_some,Bool.not_true,cond_false,k2,Bool.true_and]
   cases hb:jU d
   ·cases decide (d.2.2.2.1=ri)<;>rfl
   ·rw [hb] at YT;have hc:decide (d.2.2.2.2.2.2.2.2.2.2.2.2.2.2.2.2.2.2.2.1=ri)=decide (d.2.2.2.1=ri):=by rw [YT rfl]
    rw [hc]
    cases decide (d.2.2.2.1=ri)
    ·rfl
    ·simp only [Bool.not_true,cond_false,Bool.and_self,cond_true,c2,e2,Option.bind_some]
 ·rfl
theorem JQ (d:bY) (ri:Int) (x:dY) (h:ow d≤1048576):mL d.1 d.2.1 d.2.2.1 d.2.2.2.1 d.2.2.2.2.1 d.2.2.2.2.2.1 d.2.2.2.2.2.2.1 d.2.2.2.2.2.2.2.1 d.2.2.2.2.2.2.2.2.1 d.2.2.2.2.2.2.2.2.2.1 d.2.2.2.2.2.2.2.2.2.2.1 d.2.2.2.2.2.2.2.2.2.2.2.1 d.2.2.2.2.2.2.2.2.2.2.2.2.1 d.2.2.2.2.2.2.2.2.2.2.2.2.2.1 d.2.2.2.2.2.2.2.2.2.2.2.2.2.2.1 d.2.2.2.2.2.2.2.2.2.2.2.2.2.2.2.1 d.2.2.2.2.2.2.2.2.2.2.2.2.2.2.2.2.1 d.2.2.2.2.2.2.2.2.2.2.2.2.2.2.2.2.2.1 d.2.2.2.2.2.2.2.2.2.2.2.2.2.2.2.2.2.2.1 d.2.2.2.2.2.2.2.2.2.2.2.2.2.2.2.2.2.2.2.1 d.2.2.2.2.2.2.2.2.2.2.2.2.2.2.2.2.2.2.2.2.1 d.2.2.2.2.2.2.2.2.2.2.2.2.2.2.2.2.2.2.2.2.2.1 d.2.2.2.2.2.2.2.2.2.2.2.2.2.2.2.2.2.2.2.2.2.2.1 d.2.2.2.2.2.2.2.2.2.2.2.2.2.2.2.2.2.2.2.2.2.2.2.1 ri x.1 x.2.1 x.2.2.1 x.2.2.2.1=some (vd d ri x)∧sD d.1 d.2.1 d.2.2.1 d.2.2.2.1 d.2.2.2.2.1 d.2.2.2.2.2.1 d.2.2.2.2.2.2.1 d.2.2.2.2.2.2.2.1 d.2.2.2.2.2.2.2.2.1 d.2.2.2.2.2.2.2.2.2.1 d.2.2.2.2.2.2.2.2.2.2.1 d.2.2.2.2.2.2.2.2.2.2.2.1 d.2.2.2.2.2.2.2.2.2.2.2.2.1 d.2.2.2.2.2.2.2.2.2.2.2.2.2.1 d.2.2.2.2.2.2.2.2.2.2.2.2.2.2.1 d.2.2.2.2.2.2.2.2.2.2.2.2.2.2.2.1 d.2.2.2.2.2.2.2.2.2.2.2.2.2.2.2.2.1 d.2.2.2.2.2.2.2.2.2.2.2.2.2.2.2.2.2.1 d.2.2.2.2.2.2.2.2.2.2.2.2.2.2.2.2.2.2.1 d.2.2.2.2.2.2.2.2.2.2.2.2.2.2.2.2.2.2.2.1 d.2.2.2.2.2.2.2.2.2.2.2.2.2.2.2.2.2.2.2.2.1 d.2.2.2.2.2.2.2.2.2.2.2.2.2.2.2.2.2.2.2.2.2.1 d.2.2.2.2.2.2.2.2.2.2.2.2.2.2.2.2.2.2.2.2.2.2.1 d.2.2.2.2.2.2.2.2.2.2.2.2.2.2.2.2.2.2.2.2.2.2.2.1 ri x.1 x.2.1 x.2.2.1 x.2.2.2.1=some (vd d ri x):=by
 obtain ⟨k1,k2,_⟩:=m7 d h;obtain ⟨p1,p2⟩:=uQ d h;have hw:mg (aE d)≤1048576:=Nat.le_trans (Sb d) h;obtain ⟨c1,c2⟩:=QE (aE d) x hw;have hg:d.2.2.2.2.2.2.2.2.2.2.2.2.2.2.2.2.2.2.2.2.2.2.2.1.length≤1048576:=by unfold ow at h;omega
 obtain ⟨e1,e2⟩:=IU (fA d (qY (aE d) x)) (QF (aE d) x hw) hg;exact ⟨JO d ri x _ _ p1 (yg d h) c1 e1,JP d ri x _ _ p2 k2 (C3 d h) (fun hi=>(OK d h hi).2.2.2.2.2) c2 e2⟩
end Go.TM
set_option linter.unusedSimpArgs false
set_option linter.unusedVariables false
namespace Go.TM
open Go
def Yn {A B C:Type} (P:A→Prop):Sum A B→Sum A C→Prop
 |.inl a,.inl b=>a=b∧P a
 |_,_=>False
theorem MH (eQ:Int) (eR:Int) (cA:Int) (eE:Int) (eH:Int) (dU:List (Int×Unit)) (dE:Int) (ek:List (Int×Unit)) (bz:List (ByteArray×Unit)) (h0:List.length dU≤1048576):∃o0 o1 o2 o3 o4 o5 o6,sN eQ eR cA eE eH dU dE ek bz=some (o0,o1,o2,o3,o4,o5,o6,())∧nQ eQ eR cA eE eH dU dE ek bz=some (o0,o1,o2,o3,o4,o5,o6,())∧o5=dU∧(List.length o6+wl dF o6)≤1048576:=by
 obtain ⟨b,k1,k2,k3⟩:=wo eQ eR cA eE eH dU (by omega);obtain ⟨c1,c2⟩:=mf eQ eR cA eE eH dU (by omega);have hm:(if (3:Int)<((List.length bz:Nat):Int) then (3:Int) else ((List.length bz:Nat):Int))=((min 3 bz.length:Nat):Int):=by split<;>omega
 unfold sN nQ;delta bt;simp only [k1,k2,c1,c2,mE,pZ,Option.bind_some]
 cases b
 ·cases (decide (1≤dE)&&decide (dE≤5))
  ·exact ⟨_,_,_,_,_,dU,[],rfl,rfl,rfl,by decide⟩
  ·exact ⟨_,_,_,_,_,dU,[],rfl,rfl,rfl,by decide⟩
 cases (decide (1≤dE)&&decide (dE≤5))
 ·exact ⟨_,_,_,_,_,dU,[],rfl,rfl,rfl,by decide⟩
 obtain ⟨z1,z2,z3,z4,z5,z6⟩:=k3 rfl;have YZ:(bz.take (min 3 bz.length)).length=min 3 bz.length:=by simp
 simp only [Bool.not_true,cond_false,hm,aG,ax,cond_true,List.drop_zero,YZ,ak (show ((min 3 bz.length:Nat):Int)≤((List.length bz:Nat):Int) by omega)];obtain ⟨e,f,g1,g2,g3⟩:∃e f,aJ lr (dE,ek,bz,eQ,eR,cA,eE,eH,dU,(0:Int),(0:Int),(0:Int),(0:Int),(0:Int),[],eQ,eR,cA,eE,eH,dU,[],(0:Int),())=some e∧
   aJ fl (dE,ek,eQ,eR,cA,eE,eH,dU,(0:Int),(0:Int),(0:Int),(0:Int),(0:Int),[],eQ,eR,cA,eE,eH,dU,[],bz.take (min 3 bz.length),((min 3 bz.length:Nat):Int),(0:Int),())=some f∧
   Yn (fun v=>∃(q:Int) (l:aU),v=(eQ,eR,cA,eE,eH,dU,(0:Int),(0:Int),(0:Int),(0:Int),(0:Int),[],eQ,eR,q,eE,eH,dU,l,())∧l.length≤3∧wl dF l≤180) e f:=by
  refine qn 3 (fun k x y=>∃l:aU,x=(dE,ek,bz,eQ,eR,cA,eE,eH,dU,(0:Int),(0:Int),(0:Int),(0:Int),(0:Int),[],eQ,eR,cA+((k:Nat):Int),eE,eH,dU,l,((k:Nat):Int),())∧
   y=(dE,ek,eQ,eR,cA,eE,eH,dU,(0:Int),(0:Int),(0:Int),(0:Int),(0:Int),[],eQ,eR,cA+((k:Nat):Int),eE,eH,dU,l,bz.take (min 3 bz.length),((min 3 bz.length:Nat):Int),((k:Nat):Int),())∧l.length=k∧wl dF l≤60*k) _ ?_ ⟨[],by rw [show cA+((0:Nat):Int)=cA by omega];rfl,by rw [show cA+((0:Nat):Int)=cA by omega];rfl,rfl,Nat.le_refl _⟩
  rintro k x y hk ⟨l,rfl,rfl,q1,q2⟩
  have stop:∀ {A B:Type} (u:Sum _ A) (v:Sum _ B),u=.inl (eQ,eR,cA,eE,eH,dU,(0:Int),(0:Int),(0:Int),(0:Int),(0:Int),([]:List (Int×Unit)),eQ,eR,cA+((k:Nat):Int),eE,eH,dU,l,())→v=.inl (eQ,eR,cA,eE,eH,dU,(0:Int),(0:Int),(0:Int),(0:Int),(0:Int),([]:List (Int×Unit)),eQ,eR,cA+((k:Nat):Int),eE,eH,dU,l,())→
    Yn (fun v=>∃(q:Int) (l:aU),v=(eQ,eR,cA,eE,eH,dU,(0:Int),(0:Int),(0:Int),(0:Int),(0:Int),([]:List (Int×Unit)),eQ,eR,q,eE,eH,dU,l,())∧l.length≤3∧wl dF l≤180) u v:=by
   intro A B u v e1 e2;subst e1 e2;exact ⟨rfl,_,l,rfl,by omega,by omega⟩
  by_cases h1:k<bz.length
  ·by_cases h4:k<3
   ·have Yo:k<min 3 bz.length:=by omega
    have Ji:(bz.take (min 3 bz.length))[k]?=some bz[k]:=by rw [List.getElem?_take_of_lt Yo];exact List.getElem?_eq_getElem h1
    have e1:IntKind.i64.wrap ((cA+((k:Nat):Int))+(1:Int))=cA+((k+1:Nat):Int):=by rw [dq]<;>omega
    simp only [lr,ba,aT,qy,fl,az,iD,aF h1,aF Yo,ak (show ((k:Nat):Int)<(3:Int) by omega),ax,cond_true,aG,List.getElem?_eq_getElem h1,Ji,Option.bind_some,e1,aS (show (l.length+1)*40≤lim by unfold lim;omega),aM (show k<4611686018427387904 by omega)]
    by_cases h5:cA+((k:Nat):Int)<60
    ·rw [ak h5,aq (show ¬(60:Int)≤cA+((k:Nat):Int) by omega)]
     by_cases h6:((ByteArray.size bz[k].1:Nat):Int)≤60
     ·rw [ak h6,aq (show ¬(60:Int)<((ByteArray.size bz[k].1:Nat):Int) by omega)];have add:∀lv:Int,wl dF (l++[(cA+((k+1:Nat):Int),dE,lv,bz[k].1,())])≤60*(k+1):=by
       intro lv;rw [HP];have:wl dF [(cA+((k+1:Nat):Int),dE,lv,bz[k].1,())]=ByteArray.size bz[k].1:=rfl;omega
      by_cases h7:k<ek.length
      ·rw [aF h7];simp only [cond_true,cond_false,List.getElem?_eq_getElem h7,Option.bind_some]
       cases decide (ek[k].1=2)
       ·exact .inr ⟨h4,_,_,rfl,rfl,_,rfl,rfl,by simp [q1],add 1⟩
       ·exact .inr ⟨h4,_,_,rfl,rfl,_,rfl,rfl,by simp [q1],add 2⟩
      ·rw [aq (show ¬((k:Nat):Int)<((List.length ek:Nat):Int) by omega)];exact .inr ⟨h4,_,_,rfl,rfl,_,rfl,rfl,by simp [q1],add 1⟩
     ·rw [aq h6,ak (show (60:Int)<((ByteArray.size bz[k].1:Nat):Int) by omega)];exact .inl ⟨_,_,rfl,rfl,stop _ _ rfl rfl⟩
    ·rw [aq h5,ak (show (60:Int)≤cA+((k:Nat):Int) by omega)];exact .inl ⟨_,_,rfl,rfl,stop _ _ rfl rfl⟩
   ·have hk3:k=3:=by omega
    refine .inl ⟨_,_,?_,?_,stop _ _ rfl rfl⟩
    ·simp only [lr,ba,aT,qy,aF h1,aq (show ¬((k:Nat):Int)<(3:Int) by omega),cond_true,cond_false]
    ·simp only [fl,az,iD,aq (show ¬((k:Nat):Int)<((min 3 bz.length:Nat):Int) by omega),cond_false]
  ·refine .inl ⟨_,_,?_,?_,stop _ _ rfl rfl⟩
   ·simp only [lr,ba,aT,qy,aq (show ¬((k:Nat):Int)<((List.length bz:Nat):Int) by omega),cond_false]
   ·simp only [fl,az,iD,aq (show ¬((k:Nat):Int)<((min 3 bz.length:Nat):Int) by omega),cond_false]
 rw [g1,g2]
 cases e with
 |inr e=>exact g3.elim
 |inl e=>cases f with
  |inr f=>exact g3.elim
  |inl f=>
   obtain ⟨rfl,q,l,rfl,q1,q2⟩:=g3;simp only [jI]
   cases decide (eE=cA)
   ·exact ⟨_,_,_,_,_,dU,l,rfl,rfl,rfl,by omega⟩
   ·cases decide (eH=0)
    ·exact ⟨_,_,_,_,_,dU,l,rfl,rfl,rfl,by omega⟩
    ·exact ⟨_,_,_,_,_,dU,l,rfl,rfl,rfl,by omega⟩
end Go.TM
set_option linter.unusedSimpArgs false
set_option linter.unusedVariables false
namespace Go.TM
open Go
def BQ (c2 from_:Int) (level:List (Int×Unit)) (texts:List (ByteArray×Unit)) (j:Nat):dY:=
 (c2+((j+1:Nat):Int),from_,(bif decide (j<level.length)&&decide ((level.getD j ((0:Int),())).1=2) then 2 else 1),(texts.getD j (ByteArray.empty,())).1,())
def eM (c2 from_:Int) (level:List (Int×Unit)) (texts:List (ByteArray×Unit)) (m:Nat):aU:=(List.range m).map (BQ c2 from_ level texts)
theorem qZ (c2 from_:Int) (level:List (Int×Unit)) (texts:List (ByteArray×Unit)) (m:Nat):(eM c2 from_ level texts m).length=m:=by simp [eM]
theorem JR (c2 from_:Int) (level:List (Int×Unit)) (texts:List (ByteArray×Unit)) (m:Nat):eM c2 from_ level texts (m+1)=eM c2 from_ level texts m++[BQ c2 from_ level texts m]:=by
 unfold eM;rw [List.range_succ,List.map_append];rfl
def GU (c2:Int) (texts:List (ByteArray×Unit)) (m:Nat):Prop:=m=min 3 texts.length∨60≤c2+((m:Nat):Int)∨∃h:m<texts.length,60<ByteArray.size texts[m].1
theorem QO (eQ:Int) (eR:Int) (cA:Int) (eE:Int) (eH:Int) (dU:List (Int×Unit)) (dE:Int) (ek:List (Int×Unit)) (bz:List (ByteArray×Unit)) (h0:List.length dU≤1048576) (h3:List.length bz≤1048576) (hd:1≤dE∧dE≤5) (ht:ahc eQ eR cA eE eH dU) :
  ∃m t3,nQ eQ eR cA eE eH dU dE ek bz=some (eQ,eR,cA+((m:Nat):Int),t3,eH,dU,eM cA dE ek bz m,())∧m≤3∧m≤bz.length∧cA+((m:Nat):Int)≤60∧(t3=eE∨t3=cA+((m:Nat):Int))∧GU cA bz m∧t3=(if eE=cA∧eH=0 then cA+((m:Nat):Int) else eE):=by
 obtain ⟨b,_,k2,k3⟩:=Lo eQ eR cA eE eH dU h0;have hb:=k3.2 ht;subst hb;obtain ⟨_,c2⟩:=mf eQ eR cA eE eH dU h0;obtain ⟨_,_,z2,z3,_⟩:=ht;have hm:(if (3:Int)<((List.length bz:Nat):Int) then (3:Int) else ((List.length bz:Nat):Int))=((min 3 bz.length:Nat):Int):=by split<;>omega
 have YZ:(bz.take (min 3 bz.length)).length=min 3 bz.length:=by simp
 unfold nQ;delta bt;simp only [k2,c2,pZ,ak hd.1,ak hd.2,Bool.and_self,Option.bind_some,Bool.not_true,cond_false,hm,aG,ax,cond_true,List.drop_zero,YZ,ak (show ((min 3 bz.length:Nat):Int)≤((List.length bz:Nat):Int) by omega)];have fin:∀(k:Nat),∃v:Int×Int×Int×Int×Int×(List (Int×Unit))×Int×Int×Int×Int×Int×(List (Int×Unit))×Int×Int×Int×Int×Int×(List (Int×Unit))×aU×Unit,v=(eQ,eR,cA,eE,eH,dU,(0:Int),(0:Int),(0:Int),(0:Int),(0:Int),[],eQ,eR,cA+((k:Nat):Int),eE,eH,dU,eM cA dE ek bz k,()):=fun k=>⟨_,rfl⟩
 obtain ⟨e,g1,m,g2,g3,g4,g5,g6⟩:∃e,aJ fl (dE,ek,eQ,eR,cA,eE,eH,dU,(0:Int),(0:Int),(0:Int),(0:Int),(0:Int),[],eQ,eR,cA,eE,eH,dU,[],bz.take (min 3 bz.length),((min 3 bz.length:Nat):Int),(0:Int),())=some e∧
   ∃m:Nat,e=.inl (eQ,eR,cA,eE,eH,dU,(0:Int),(0:Int),(0:Int),(0:Int),(0:Int),[],eQ,eR,cA+((m:Nat):Int),eE,eH,dU,eM cA dE ek bz m,())∧m≤3∧m≤bz.length∧cA+((m:Nat):Int)≤60∧GU cA bz m:=by
  refine dt (min 3 bz.length) (fun k x=>x=(dE,ek,eQ,eR,cA,eE,eH,dU,(0:Int),(0:Int),(0:Int),(0:Int),(0:Int),[],eQ,eR,cA+((k:Nat):Int),eE,eH,dU,eM cA dE ek bz k,bz.take (min 3 bz.length),((min 3 bz.length:Nat):Int),((k:Nat):Int),())∧cA+((k:Nat):Int)≤60) _ ?_ ?_ ⟨by rw [show cA+((0:Nat):Int)=cA by omega];rfl,by omega⟩
  ·rintro x ⟨rfl,q⟩
   exact ⟨_,by simp only [fl,az,iD,aN,cond_false],_,rfl,by omega,by omega,q,.inl rfl⟩
  ·rintro k x Yo ⟨rfl,q⟩
   have h1:k<bz.length:=by omega
   have Ji:(bz.take (min 3 bz.length))[k]?=some bz[k]:=by rw [List.getElem?_take_of_lt Yo];exact List.getElem?_eq_getElem h1
   have hgt:(bz.getD k (ByteArray.empty,())).1=bz[k].1:=by rw [List.getD_eq_getElem?_getD,List.getElem?_eq_getElem h1,Option.getD_some]
   have stop:GU cA bz k→∃m:Nat,(.inl (eQ,eR,cA,eE,eH,dU,(0:Int),(0:Int),(0:Int),(0:Int),(0:Int),[],eQ,eR,cA+((k:Nat):Int),eE,eH,dU,eM cA dE ek bz k,()):Sum _ Unit)=.inl (eQ,eR,cA,eE,eH,dU,(0:Int),(0:Int),(0:Int),(0:Int),(0:Int),([]:List (Int×Unit)),eQ,eR,cA+((m:Nat):Int),eE,eH,dU,eM cA dE ek bz m,())∧m≤3∧m≤bz.length∧cA+((m:Nat):Int)≤60∧GU cA bz m:=
    fun hq=>⟨k,rfl,by omega,by omega,q,hq⟩
   by_cases h5:(60:Int)≤cA+((k:Nat):Int)
   ·refine .inl ⟨_,?_,stop (.inr (.inl h5))⟩;simp only [fl,az,iD,aF Yo,ax,cond_true,aG,Ji,Option.bind_some,ak h5]
   have e1:IntKind.i64.wrap ((cA+((k:Nat):Int))+(1:Int))=cA+((k+1:Nat):Int):=by rw [dq]<;>omega
   by_cases h6:(60:Int)<((ByteArray.size bz[k].1:Nat):Int)
   ·refine .inl ⟨_,?_,stop (.inr (.inr ⟨h1,by omega⟩))⟩;simp only [fl,az,iD,aF Yo,ax,cond_true,cond_false,aG,Ji,Option.bind_some,aq h5,ak h6]
   refine .inr ⟨_,?_,rfl,by omega⟩;have hlen:=qZ cA dE ek bz k;simp only [fl,az,iD,aF Yo,ax,cond_true,cond_false,aG,Ji,Option.bind_some,aq h5,aq h6,e1,hlen,aS (show (k+1)*40≤lim by unfold lim;omega),aM (show k<4611686018427387904 by omega)];rw [JR];unfold BQ;rw [hgt]
   by_cases h7:k<ek.length
   ·have hgl:ek.getD k ((0:Int),())=ek[k]:=by rw [List.getD_eq_getElem?_getD,List.getElem?_eq_getElem h7,Option.getD_some]
    rw [aF h7,ak h7,hgl];simp only [cond_true,List.getElem?_eq_getElem h7,Option.bind_some,Bool.true_and]
    cases decide (ek[k].1=2)<;>rfl
   ·rw [aq (show ¬((k:Nat):Int)<((List.length ek:Nat):Int) by omega),aq h7];rfl
 rw [g1];subst g2;simp only [jI]
 by_cases w1:eE=cA
 ·rw [ak w1]
  by_cases w2:eH=0
  ·rw [ak w2];exact ⟨m,_,rfl,g3,g4,g5,.inr rfl,g6,by rw [if_pos ⟨w1,w2⟩]⟩
  ·rw [aq w2];exact ⟨m,_,rfl,g3,g4,g5,.inl rfl,g6,by rw [if_neg (fun h=>w2 h.2)]⟩
 ·rw [aq w1];exact ⟨m,_,rfl,g3,g4,g5,.inl rfl,g6,by rw [if_neg (fun h=>w1 h.1)]⟩
end Go.TM
set_option linter.unusedSimpArgs false
set_option linter.unusedVariables false
namespace Go.TM
open Go
def En (c2 c3 c4 d a:Int):Int:=if a<c3 then a else if c4=d then (if c2<a then c2 else a) else c3
def Eo (c2 c3 c4 d a:Int):Int:=if a<c3 then d else if c4=d then (if c2≤a then 0 else c4) else c4
theorem Yp (c0 c1 c2 c3 c4:Int) (xs:List (Int×Unit)) (d a:Int) (h:xs.length≤1048576) {b:Bool} (hb:eU c0 c1 c2 c3 c4 xs=some (b,())) :
  ∃t3 t4,xX c0 c1 c2 c3 c4 xs d a=some (c0,c1,c2,t3,t4,xs,())∧x9 c0 c1 c2 c3 c4 xs d a=some (c0,c1,c2,t3,t4,xs,())∧
   (b=false∨d<1∨5<d∨a<0→t3=c3∧t4=c4)∧(b=true→1≤d→d≤5→0≤a→0≤c3→c3≤c2→0≤t3∧t3≤c2∧t3≤a∧(t3≤c3∨c4=d)∧(t4=c4∨t4=d∨(t4=0∧c4=d)))∧(b=true→1≤d→d≤5→0≤a→t3=En c2 c3 c4 d a∧t4=Eo c2 c3 c4 d a):=by
 obtain ⟨b',h1,h2,_⟩:=wo c0 c1 c2 c3 c4 xs h;rw [hb] at h1;obtain rfl:b=b':=by injection h1 with h1;injection h1
 obtain ⟨h3,h4⟩:=mf c0 c1 c2 c3 c4 xs h;unfold xX x9;simp only [Option.bind_some,hb,h2,h3,h4,mE,pZ]
 cases b
 ·have:∀t3 t4:Int,t3=c3→t4=c4→(false=false∨d<1∨5<d∨a<0→t3=c3∧t4=c4)∧(false=true→1≤d→d≤5→0≤a→0≤c3→c3≤c2→0≤t3∧t3≤c2∧t3≤a∧(t3≤c3∨c4=d)∧(t4=c4∨t4=d∨(t4=0∧c4=d)))∧(false=true→1≤d→d≤5→0≤a→t3=En c2 c3 c4 d a∧t4=Eo c2 c3 c4 d a):=
   fun t3 t4 e1 e2=>⟨fun _=>⟨e1,e2⟩,(fun h=>by cases h),(fun h=>by cases h)⟩
  cases (decide (1≤d)&&decide (d≤5))
  ·exact ⟨_,_,rfl,rfl,this _ _ rfl rfl⟩
  cases decide (a<0)
  ·exact ⟨_,_,rfl,rfl,this _ _ rfl rfl⟩
  ·exact ⟨_,_,rfl,rfl,this _ _ rfl rfl⟩
 by_cases hd:1≤d∧d≤5
 ·rw [ak hd.1,ak hd.2]
  by_cases ha:a<0
  ·rw [ak ha];exact ⟨_,_,rfl,rfl,(fun _=>⟨rfl,rfl⟩),(fun _ _ _ h=>by omega),(fun _ _ _ h=>by omega)⟩
  rw [aq ha];have no:∀ {A:Prop},(true=false∨d<1∨5<d∨a<0)→A:=by
   rintro A (h | h | h | h)
   ·cases h
   ·omega
   ·omega
   ·omega
  by_cases h5:a<c3
  ·rw [ak h5];exact ⟨_,_,rfl,rfl,no,(fun _ _ _ _ _ _=>⟨by omega,by omega,by omega,.inl (by omega),.inr (.inl rfl)⟩),fun _ _ _ _=>by unfold En Eo;rw [if_pos h5,if_pos h5];exact ⟨rfl,rfl⟩⟩
  rw [aq h5]
  by_cases h6:c4=d
  ·rw [ak h6]
   by_cases h7:c2<a
   ·rw [ak h7,if_pos h7,ak (show c2=c2 from rfl)];exact ⟨_,_,rfl,rfl,no,(fun _ _ _ _ _ _=>⟨by omega,by omega,by omega,.inr h6,.inr (.inr ⟨rfl,h6⟩)⟩),fun _ _ _ _=>by unfold En Eo;rw [if_neg h5,if_neg h5,if_pos h6,if_pos h6,if_pos h7,if_pos (by omega)];exact ⟨rfl,rfl⟩⟩
   ·rw [aq h7,if_neg h7]
    by_cases h8:a=c2
    ·rw [ak h8];exact ⟨_,_,rfl,rfl,no,(fun _ _ _ _ _ _=>⟨by omega,by omega,by omega,.inr h6,.inr (.inr ⟨rfl,h6⟩)⟩),fun _ _ _ _=>by unfold En Eo;rw [if_neg h5,if_neg h5,if_pos h6,if_pos h6,if_neg h7,if_pos (by omega)];exact ⟨rfl,rfl⟩⟩
    ·rw [aq h8];exact ⟨_,_,rfl,rfl,no,(fun _ _ _ _ _ _=>⟨by omega,by omega,by omega,.inr h6,.inl rfl⟩),fun _ _ _ _=>by unfold En Eo;rw [if_neg h5,if_neg h5,if_pos h6,if_pos h6,if_neg h7,if_neg (by omega)];exact ⟨rfl,rfl⟩⟩
  ·rw [aq h6];exact ⟨_,_,rfl,rfl,no,(fun _ _ _ _ _ _=>⟨by omega,by omega,by omega,.inl (by omega),.inl rfl⟩),fun _ _ _ _=>by unfold En Eo;rw [if_neg h5,if_neg h5,if_neg h6,if_neg h6];exact ⟨rfl,rfl⟩⟩
 ·have e:(decide (1≤d)&&decide (d≤5))=false:=by
   cases hq:(decide (1≤d)&&decide (d≤5))
   ·rfl
   ·rw [Bool.and_eq_true,decide_eq_true_eq,decide_eq_true_eq] at hq;exact absurd hq hd
  rw [e];exact ⟨_,_,rfl,rfl,(fun _=>⟨rfl,rfl⟩),(fun _ h1 h2=>absurd ⟨h1,h2⟩ hd),(fun _ h1 h2=>absurd ⟨h1,h2⟩ hd)⟩
end Go.TM
set_option linter.unusedSimpArgs false
set_option linter.unusedVariables false
namespace Go.TM
open Go
theorem MI (d:Int) (xs:List (Int×Unit)) (h:xs.length≤1048576):dw xs d=some (decide (d∈cm xs),()):=by
 obtain ⟨e,he,hq⟩:=dt (round:=eO) (x:=(xs,d,((0:Nat):Int),())) xs.length (fun k x=>x=(xs,d,((k:Nat):Int),())∧d∉cm (xs.take k)) (fun e=>(e=.inl ()∧d∉cm xs)∨(e=.inr (true,())∧d∈cm xs)) (by
   rintro x ⟨rfl,g⟩
   rw [List.take_length] at g;exact ⟨.inl (),by simp only [eO,kS,aN,cond_false],.inl ⟨rfl,g⟩⟩) (by
   rintro k x hk ⟨rfl,g⟩
   simp only [eO,kS,aF hk,ax,cond_true,aG,List.getElem?_eq_getElem hk,Option.bind_some,aM (show k<4611686018427387904 by omega)]
   by_cases e:xs[k].1=d
   ·rw [ak e];exact .inl ⟨_,rfl,.inr ⟨rfl,by rw [←e];exact List.mem_map_of_mem (List.getElem_mem hk)⟩⟩
   ·rw [aq e];refine .inr ⟨_,rfl,rfl,?_⟩;rw [List.take_succ_eq_append_getElem hk];unfold cm at g ⊢;rw [List.map_append,List.mem_append]
    rintro (h1 | h1)
    ·exact g h1
    ·simp only [List.map_cons,List.map_nil,List.mem_singleton] at h1;exact e h1.symm) ⟨rfl,by simp [cm]⟩
 have he:aJ eO (xs,d,(0:Int),())=some e:=he;unfold dw;rw [he];rcases hq with ⟨rfl,g⟩ | ⟨rfl,g⟩
 ·rw [aq g];rfl
 ·rw [ak g];rfl
theorem MJ (d:Int) (xs:List (Int×Unit)) (h:xs.length≤1048576):cM xs d=some (decide (d∈cm xs),()):=by
 obtain ⟨b,h1,h2⟩:=pq d xs h;rw [MI d xs h] at h1;injection h1 with h1;injection h1 with h1 _;rw [h2,h1]
def hasB (list:aU) (s:Int):Bool:=(ey list s).isSome
theorem Br (o:Option dY):(qT o).2.2.2.2.1=o.isSome:=by cases o<;>rfl
def MK {B C:Type} (list:aU) (u:Int):Sum ((List (Int×Unit))×Unit) B→Sum ((List (Int×Unit))×Unit) C→Prop
 |.inl a,.inl b=>a=b∧∃ms:List Int,a.1=bF ms∧ms.length≤20∧∀s∈ms,1≤s∧s≤u∧hasB list s=false
 |_,_=>False
theorem Ep (list:aU) (upto u:Int) (n:Nat) (h:list.length≤1048576) (hn:n≤1048576) (hu:(if (60:Int)<upto then (60:Int) else upto)=u) (axd:u≤60) :
  ∃e f,aJ iV (list,u,[],((n+1:Nat):Int),())=some e∧aJ kr (list,upto,[],((n+1:Nat):Int),())=some f∧MK list u e f:=by
 refine qn 61 (fun k x y=>∃ms:List Int,x=(list,u,bF ms,((n+1+k:Nat):Int),())∧y=(list,upto,bF ms,((n+1+k:Nat):Int),())∧ms.length≤20∧∀s∈ms,1≤s∧s≤u∧hasB list s=false) (MK list u) ?_ ⟨[],rfl,rfl,by simp,fun s hs=>by cases hs⟩
 rintro k x y hk ⟨ms,rfl,rfl,q1,q2⟩
 have stop:MK (B:=Unit) (C:=Unit) list u (.inl (bF ms,())) (.inl (bF ms,())):=⟨rfl,ms,rfl,q1,q2⟩
 by_cases dO:((n+1+k:Nat):Int)≤u
 case neg=>
  refine .inl ⟨.inl (bF ms,()),.inl (bF ms,()),?_,?_,⟨rfl,ms,rfl,q1,q2⟩⟩
  ·simp only [iV,aw,px,aq dO,cond_false]
  ·simp only [kr,aw,pB,hu,aq dO,cond_false]
 by_cases h20:((List.length (bF ms):Nat):Int)<20
 case neg=>
  refine .inl ⟨.inl (bF ms,()),.inl (bF ms,()),?_,?_,⟨rfl,ms,rfl,q1,q2⟩⟩
  ·simp only [iV,aw,px,ak dO,aq h20,cond_true,cond_false]
  ·simp only [kr,aw,pB,hu,ak dO,aq h20,cond_true,cond_false]
 have hl:(bF ms).length=ms.length:=dS ms;simp only [iV,aw,px,kr,aw,pB,hu,ak dO,ak h20,cond_true,w6 list _ h,w7 list _ h,Option.bind_some,Br,aS (show ((bF ms).length+1)*8≤lim by unfold lim;omega),aM (show n+1+k<4611686018427387904 by omega)]
 cases hh:(ey list ((n+1+k:Nat):Int)).isSome
 ·refine .inr ⟨by omega,_,_,rfl,rfl,ms++[((n+1+k:Nat):Int)],by simp [bF];omega,by simp [bF];omega,by simp;omega,fun s hs => ?_⟩;rcases List.mem_append.1 hs with hs | hs
  ·exact q2 s hs
  ·rw [List.mem_singleton] at hs;subst hs;exact ⟨by omega,by omega,hh⟩
 ·exact .inr ⟨by omega,_,_,rfl,rfl,ms,by rw [show n+1+k+1=n+1+(k+1) by omega],by rw [show n+1+k+1=n+1+(k+1) by omega],q1,q2⟩
theorem OL (list:aU) (upto:Int) (h:list.length≤1048576):∃ms:List Int,qz list upto=some (bF ms,())∧qR list upto=some (bF ms,())∧ms.length≤20∧∀s∈ms,1≤s∧(s≤60∧s≤upto)∧hasB list s=false:=by
 obtain ⟨n,a1,a2,a3,_⟩:=Eg list h;have hw:IntKind.i64.wrap (((n:Nat):Int)+(1:Int))=((n+1:Nat):Int):=aM (by omega);unfold qz qR;simp only [a1,a2,Option.bind_some,hw]
 by_cases hu:(60:Int)<upto
 ·obtain ⟨e,f,g1,g2,g3⟩:=Ep list upto 60 n h (by omega) (if_pos hu) (by omega);rw [ak hu];simp only [cond_true,g1,g2]
  cases e with
  |inr e=>exact g3.elim
  |inl e=>cases f with
   |inr f=>exact g3.elim
   |inl f=>
    obtain ⟨rfl,ms,k1,k2,k3⟩:=g3;simp only [jI];exact ⟨ms,by rw [k1],by rw [k1],k2,fun s hs=>⟨(k3 s hs).1,⟨(k3 s hs).2.1,by have:=(k3 s hs).2.1;omega⟩,(k3 s hs).2.2⟩⟩
 ·obtain ⟨e,f,g1,g2,g3⟩:=Ep list upto upto n h (by omega) (if_neg hu) (by omega);rw [aq hu];simp only [cond_false,g1,g2]
  cases e with
  |inr e=>exact g3.elim
  |inl e=>cases f with
   |inr f=>exact g3.elim
   |inl f=>
    obtain ⟨rfl,ms,k1,k2,k3⟩:=g3;simp only [jI];exact ⟨ms,by rw [k1],by rw [k1],k2,fun s hs=>⟨(k3 s hs).1,⟨by have:=(k3 s hs).2.1;omega,(k3 s hs).2.1⟩,(k3 s hs).2.2⟩⟩
theorem IV:∀(a b:List Int),a.Pairwise (· < ·)→b.Pairwise (· < ·)→(∀x,x∈a↔x∈b)→a=b
 | [],[],_,_,_=>rfl
 | [],y::b,_,_,h=>absurd ((h y).2 List.mem_cons_self) (by simp)
 |x::a,[],_,_,h=>absurd ((h x).1 List.mem_cons_self) (by simp)
 |x::a,y::b,ha,hb,h=>by
  rw [List.pairwise_cons] at ha hb;have hxy:x=y:=by
   rcases List.mem_cons.1 ((h x).1 List.mem_cons_self) with e | e
   ·exact e
   ·have h1:=hb.1 x e;rcases List.mem_cons.1 ((h y).2 List.mem_cons_self) with e2 | e2
    ·exact e2.symm
    ·have h2:=ha.1 y e2;omega
  subst hxy
  congr 1
  refine IV a b ha.2 hb.2 fun z=>⟨fun hz => ?_,fun hz => ?_⟩
  ·rcases List.mem_cons.1 ((h z).1 (List.mem_cons_of_mem _ hz)) with e | e
   ·have:=ha.1 z hz;omega
   ·exact e
  ·rcases List.mem_cons.1 ((h z).2 (List.mem_cons_of_mem _ hz)) with e | e
   ·have:=hb.1 z hz;omega
   ·exact e
theorem aaj (l:List Int):(l.mergeSort fun x y=>decide (x≤y)).Pairwise (· ≤ ·):=by
 have:=List.pairwise_mergeSort (le:=fun x y:Int=>decide (x≤y)) (fun a b c h1 h2=>by simp only [decide_eq_true_eq] at *;omega) (fun a b=>by simp only [Bool.or_eq_true,decide_eq_true_eq];omega) l;exact this.imp fun h=>by simpa using h
theorem Yq (l:List Int) (x:Int):x∈(l.mergeSort fun x y=>decide (x≤y))↔x∈l:=(List.mergeSort_perm l _).mem_iff
theorem yh (l:List Int) (j:Nat) (h:j<l.length):l.toArray[j]! = l[j]:=by
 rw [getElem!_pos l.toArray j (by simpa using h)];simp
theorem IW (l:List Int) (h:l.Pairwise (· ≤ ·)):(Lib.compact l).Pairwise (· < ·):=by
 unfold Lib.compact Lib.compactUpTo;rw [List.pairwise_map];have hr:((List.range l.length).filter (Lib.keeps l.toArray)).Pairwise (· < ·):=List.Pairwise.filter _ List.pairwise_lt_range;refine hr.imp_of_mem fun {i j} hi hj VS => ?_
 obtain ⟨hi1,_⟩:=List.mem_filter.1 hi;obtain ⟨YX,V4⟩:=List.mem_filter.1 hj;have hi1:=List.mem_range.1 hi1;have YX:=List.mem_range.1 YX;have hk:l.toArray[j]! ≠ l.toArray[j-1]! := by
  unfold Lib.keeps at V4;rw [decide_eq_true_eq] at V4;exact V4.resolve_left (by omega)
 have hp:=List.pairwise_iff_getElem.1 h;have h1:=hp (j-1) j (by omega) YX (by omega);rw [yh l j YX,yh l (j-1) (by omega)] at hk;rw [yh l i hi1,yh l j YX]
 by_cases e:i=j-1
 ·subst e;omega
 ·have h2:=hp i (j-1) hi1 (by omega) (by omega);omega
theorem OM (l:List Int) (x:Int):x∈Lib.compact l↔x∈l:=by
 unfold Lib.compact Lib.compactUpTo;rw [List.mem_map]
 constructor
 ·rintro ⟨j,hj,rfl⟩
  have YX:=List.mem_range.1 (List.mem_filter.1 hj).1;rw [yh l j YX];exact List.getElem_mem YX
 ·intro hx;have key:∀j,j<l.length→∃i,i∈(List.range l.length).filter (Lib.keeps l.toArray)∧l.toArray[i]! = l.toArray[j]! := by
   intro j
   induction j with
   |zero=>intro h0;exact ⟨0,List.mem_filter.2 ⟨List.mem_range.2 h0,by simp [Lib.keeps]⟩,rfl⟩
   |succ j ih=>
    intro hj
    by_cases e:l.toArray[j+1]! = l.toArray[j]!
    ·obtain ⟨i,h1,h2⟩:=ih (by omega);exact ⟨i,h1,by rw [h2,e]⟩
    ·exact ⟨j+1,List.mem_filter.2 ⟨List.mem_range.2 hj,by unfold Lib.keeps;rw [decide_eq_true_eq,Nat.add_sub_cancel];exact .inr e⟩,rfl⟩
  obtain ⟨j,hj,rfl⟩:=List.mem_iff_getElem.1 hx;obtain ⟨i,h1,h2⟩:=key j hj;exact ⟨i,h1,by rw [h2,yh l j hj]⟩
def ints (n:Nat):List Int:=(List.range n).map fun i=>((i+1:Nat):Int)
theorem Lv (n:Nat):ints (n+1)=ints n++[((n+1:Nat):Int)]:=by
 unfold ints;rw [List.range_succ,List.map_append];rfl
theorem Yr (n:Nat) (x:Int):x∈ints n↔1≤x∧x≤((n:Nat):Int):=by
 unfold ints;rw [List.mem_map]
 constructor
 ·rintro ⟨i,hi,rfl⟩
  have:=List.mem_range.1 hi;omega
 ·rintro ⟨h1,h2⟩
  exact ⟨(x-1).toNat,List.mem_range.2 (by omega),by omega⟩
theorem Gm (n:Nat):(ints n).Pairwise (· < ·):=by
 unfold ints;rw [List.pairwise_map];exact List.pairwise_lt_range.imp fun h=>by omega
theorem IX:∀(k d:Nat),∃r,ints (k+d)=ints k++r
 |k,0=>⟨[],by simp⟩
 |k,d+1=>by
  obtain ⟨r,h⟩:=IX k d;exact ⟨r++[((k+d+1:Nat):Int)],by rw [show k+(d+1)=(k+d)+1 by omega,Lv,h,List.append_assoc]⟩
theorem QP (a b:List Int):bF (a++b)=bF a++bF b:=by simp [bF]
theorem ON (a:List Int) (n:Nat):bF (a.take n)=(bF a).take n:=by simp [bF,List.map_take]
theorem sF (a:List Int):cm (bF a)=a:=by simp [cm,bF,Function.comp_def]
def jq (list:aU) (xs:List (Int×Unit)) (ms:List Int) (s:Int):Bool:=(!hasB list s&&decide (s∈cm xs))||decide (s∈ms)
def mF (list:aU) (xs:List (Int×Unit)) (ms:List Int):List Int:=((ints 60).filter (jq list xs ms)).take 20
abbrev abN:Type:=aU×Int×Int×Int×Int×Int×(List (Int×Unit))×Int×Int×Int×Int×Int×(List (Int×Unit))×Int×Int×Int×Int×Int×(List (Int×Unit))×(List (Int×Unit))×Int×Unit
theorem QQ (t0 t1 t2 t3 t4:Int) (xs:List (Int×Unit)) (list:aU) (ms:List Int) (h:list.length≤1048576) (hx:xs.length≤1048576) (hm:qz list t2=some (bF ms,())) (hms:ms.length≤20) :
  eF t0 t1 t2 t3 t4 xs list=some (t0,t1,t2,t3,t4,bF (mF list xs ms),()):=by
 have YZ:(bF ms).length≤1048576:=by rw [dS];omega
 obtain ⟨e,he,rfl⟩:=dt (round:=mI) (x:=(list,t0,t1,t2,t3,t4,xs,(0:Int),(0:Int),(0:Int),(0:Int),(0:Int),[],t0,t1,t2,t3,t4,[],bF ms,((0+1:Nat):Int),())) 60
  (fun k x=>x=(list,t0,t1,t2,t3,t4,xs,(0:Int),(0:Int),(0:Int),(0:Int),(0:Int),[],t0,t1,t2,t3,t4,bF ((ints k).filter (jq list xs ms)),bF ms,((k+1:Nat):Int),())∧((ints k).filter (jq list xs ms)).length≤20)
  (fun e=>e=.inl ((0:Int),(0:Int),(0:Int),(0:Int),(0:Int),[],t0,t1,t2,t3,t4,bF (mF list xs ms),())) (by
   rintro x ⟨rfl,g⟩
   refine ⟨_,?_,rfl⟩;simp only [mI,ba,aw,sv,aq (show ¬((60+1:Nat):Int)≤(60:Int) by omega),cond_false];unfold mF;rw [List.take_of_length_le g]) (by
   rintro k x hk ⟨rfl,g⟩
   have hle:((k+1:Nat):Int)≤(60:Int):=by omega
   have hl:=dS ((ints k).filter (jq list xs ms))
   by_cases h20:((List.length (bF ((ints k).filter (jq list xs ms))):Nat):Int)<20
   case neg=>
    refine .inl ⟨_,?_,rfl⟩;simp only [mI,ba,aw,sv,ak hle,aq h20,cond_true,cond_false];have:mF list xs ms=(ints k).filter (jq list xs ms):=by
     unfold mF;obtain ⟨r,hr⟩:=IX k (60-k);rw [show k+(60-k)=60 by omega] at hr;rw [hr,List.filter_append];exact List.take_left' (by omega)
    rw [this]
   have Lw:(ints (k+1)).filter (jq list xs ms)=(ints k).filter (jq list xs ms)++(if jq list xs ms ((k+1:Nat):Int) then [((k+1:Nat):Int)] else []):=by
    rw [Lv,List.filter_append];rw [List.filter_cons,List.filter_nil]
   have asQ:=MI ((k+1:Nat):Int) xs hx;have al6:=MI ((k+1:Nat):Int) (bF ms) YZ;rw [sF] at al6;have hb:Nat.ble (((bF ((ints k).filter (jq list xs ms))).length+1)*8) lim=true:=aS (by unfold lim;omega);have hsw:=aM (show k+1<4611686018427387904 by omega);simp only [mI,ba,aw,sv,ak hle,ak h20,cond_true,w6 list _ h,Option.bind_some,Br,asQ,al6,hb,hsw];have yes:jq list xs ms ((k+1:Nat):Int)=true→∃x':abN,x'=(list,t0,t1,t2,t3,t4,xs,(0:Int),(0:Int),(0:Int),(0:Int),(0:Int),[],t0,t1,t2,t3,t4,bF ((ints k).filter (jq list xs ms))++[(((k+1:Nat):Int),())],bF ms,((k+1+1:Nat):Int),())∧
     (x'=(list,t0,t1,t2,t3,t4,xs,(0:Int),(0:Int),(0:Int),(0:Int),(0:Int),[],t0,t1,t2,t3,t4,bF ((ints (k+1)).filter (jq list xs ms)),bF ms,((k+1+1:Nat):Int),())∧((ints (k+1)).filter (jq list xs ms)).length≤20):=by
    intro hp;refine ⟨_,rfl,?_,?_⟩
    ·rw [Lw,hp,if_pos rfl,QP];rfl
    ·rw [Lw,hp,if_pos rfl,List.length_append];simp;omega
   have no:jq list xs ms ((k+1:Nat):Int)=false→∃x':abN,x'=(list,t0,t1,t2,t3,t4,xs,(0:Int),(0:Int),(0:Int),(0:Int),(0:Int),[],t0,t1,t2,t3,t4,bF ((ints k).filter (jq list xs ms)),bF ms,((k+1+1:Nat):Int),())∧
     (x'=(list,t0,t1,t2,t3,t4,xs,(0:Int),(0:Int),(0:Int),(0:Int),(0:Int),[],t0,t1,t2,t3,t4,bF ((ints (k+1)).filter (jq list xs ms)),bF ms,((k+1+1:Nat):Int),())∧((ints (k+1)).filter (jq list xs ms)).length≤20):=by
    intro hp;refine ⟨_,rfl,?_,?_⟩
    ·rw [Lw,hp];simp
    ·rw [Lw,hp];simp;omega
   have ML:jq list xs ms ((k+1:Nat):Int)=((!(ey list ((k+1:Nat):Int)).isSome&&decide (((k+1:Nat):Int)∈cm xs))||decide (((k+1:Nat):Int)∈ms)):=rfl
   cases c1:(ey list ((k+1:Nat):Int)).isSome
   ·cases c2:decide (((k+1:Nat):Int)∈cm xs)
    ·cases c3:decide (((k+1:Nat):Int)∈ms)
     ·obtain ⟨x',g1,g2⟩:=no (by rw [ML,c1,c2,c3];rfl);exact .inr ⟨x',by rw [g1];rfl,g2⟩
     ·obtain ⟨x',g1,g2⟩:=yes (by rw [ML,c1,c2,c3];rfl);exact .inr ⟨x',by rw [g1];rfl,g2⟩
    ·obtain ⟨x',g1,g2⟩:=yes (by rw [ML,c1,c2];rfl);exact .inr ⟨x',by rw [g1];rfl,g2⟩
   ·cases c3:decide (((k+1:Nat):Int)∈ms)
    ·obtain ⟨x',g1,g2⟩:=no (by rw [ML,c1,c3];rfl);exact .inr ⟨x',by rw [g1];rfl,g2⟩
    ·obtain ⟨x',g1,g2⟩:=yes (by rw [ML,c1,c3];rfl);exact .inr ⟨x',by rw [g1];rfl,g2⟩) ⟨rfl,by simp [ints]⟩
 unfold eF;rw [hm];simp only [Option.bind_some];rw [show (1:Int)=((0+1:Nat):Int) from rfl,he];rfl
def ud (list:aU) (s:Int):Bool := !hasB list s&&(decide (1≤s)&&decide (s≤60))
theorem QR (t0 t1 t2 t3 t4:Int) (xs:List (Int×Unit)) (list:aU) (ms:List Int) (h:list.length≤1048576) (hx:xs.length≤1048576) (hm:qR list t2=some (bF ms,())) (hms:ms.length≤20) (hmp:∀s∈ms,1≤s∧s≤60∧hasB list s=false) :
  v8 t0 t1 t2 t3 t4 xs list=some (t0,t1,t2,t3,t4,bF (mF list xs ms),()):=by
 have Se:=ck (round:=mP) (e:=.inl ((0:Int),(0:Int),(0:Int),(0:Int),(0:Int),[],t0,t1,t2,t3,t4,xs,bF (ms++(cm xs).filter (ud list)),())) xs.length
  (fun k=>(list,(0:Int),(0:Int),(0:Int),(0:Int),(0:Int),[],t0,t1,t2,t3,t4,xs,bF (ms++(cm (xs.take k)).filter (ud list)),xs,((List.length xs:Nat):Int),((k:Nat):Int),())) (by
   simp only [mP,ba,xA,aN,cond_false,List.take_length]) (fun k hk=>by
   have hfl:((cm (xs.take k)).filter (ud list)).length≤1048576:=by
    have h1:=List.length_filter_le (ud list) (cm (xs.take k));have h2:=kN (xs.take k);rw [List.length_take] at h2;omega
   have hl:=dS (ms++(cm (xs.take k)).filter (ud list));rw [List.length_append] at hl;have Lw:(cm (xs.take (k+1))).filter (ud list)=(cm (xs.take k)).filter (ud list)++(if ud list xs[k].1 then [xs[k].1] else []):=by
    rw [List.take_succ_eq_append_getElem hk];unfold cm;rw [List.map_append,List.filter_append,List.map_cons,List.map_nil,List.filter_cons,List.filter_nil]
   have ML:ud list xs[k].1=(!(ey list xs[k].1).isSome&&(decide (1≤xs[k].1)&&decide (xs[k].1≤60))):=rfl;simp only [mP,ba,xA,aF hk,ax,cond_true,aG,List.getElem?_eq_getElem hk,Option.bind_some,w7 list _ h,Br,wm,aS (show ((bF (ms++(cm (xs.take k)).filter (ud list))).length+1)*8≤lim by unfold lim;omega),aM (show k<4611686018427387904 by omega),Lw]
   cases c1:(ey list xs[k].1).isSome
   ·cases c2:(decide (1≤xs[k].1)&&decide (xs[k].1≤60))
    ·rw [ML,c1,c2];simp
    ·rw [ML,c1,c2];simp [bF]
   ·rw [ML,c1];simp)
 have Se:aJ mP (list,(0:Int),(0:Int),(0:Int),(0:Int),(0:Int),[],t0,t1,t2,t3,t4,xs,bF (ms++(cm (xs.take 0)).filter (ud list)),xs,((List.length xs:Nat):Int),(0:Int),())=_:=Se;rw [show ms++(cm (xs.take 0)).filter (ud list)=ms by simp [cm]] at Se;have c2:fk t0 t1 t2 t3 t4 xs=some (t0,t1,t2,t3,t4,xs,()):=by
  unfold fk;rw [lF xs hx];rfl
 have hwl:(ms++(cm xs).filter (ud list)).length≤1048576+20:=by
  rw [List.length_append];have h1:=List.length_filter_le (ud list) (cm xs);have h2:=kN xs;omega
 generalize hW:ms++(cm xs).filter (ud list)=W at *;have al7:HX (bF W)=some (bF (W.mergeSort fun x y=>decide (x≤y)),()):=by
  unfold HX;rw [aS (show (bF W).length≤lim by rw [dS];unfold lim;omega),sF];rfl
 have abO:qo (bF (W.mergeSort fun x y=>decide (x≤y)))=some (bF (Lib.compact (W.mergeSort fun x y=>decide (x≤y))),()):=by
  unfold qo;rw [aS (show (bF (W.mergeSort fun x y=>decide (x≤y))).length≤lim by rw [dS,List.length_mergeSort];unfold lim;omega),sF];rfl
 have hC:Lib.compact (W.mergeSort fun x y=>decide (x≤y))=(ints 60).filter (jq list xs ms):=by
  refine IV _ _ (IW _ (aaj W)) ((Gm 60).filter _) fun z => ?_
  rw [OM,Yq,←hW,List.mem_append,List.mem_filter,List.mem_filter,Yr];unfold ud jq;simp only [Bool.and_eq_true,Bool.or_eq_true,decide_eq_true_eq,Bool.not_eq_true']
  constructor
  ·rintro (h1 | ⟨h1,h2,h3,h4⟩)
   ·exact ⟨⟨(hmp z h1).1,(hmp z h1).2.1⟩,.inr h1⟩
   ·exact ⟨⟨h3,h4⟩,.inl ⟨h2,h1⟩⟩
  ·rintro ⟨⟨h3,h4⟩,⟨h2,h1⟩ | h1⟩
   ·exact .inr ⟨h1,h2,h3,h4⟩
   ·exact .inl h1
 rw [hC] at abO;have hCl:((ints 60).filter (jq list xs ms)).length≤60:=Nat.le_trans (List.length_filter_le _ _) (by simp [ints]);have asR:(if (20:Int)<((List.length (bF ((ints 60).filter (jq list xs ms))):Nat):Int) then (20:Int) else ((List.length (bF ((ints 60).filter (jq list xs ms))):Nat):Int))=((min 20 ((ints 60).filter (jq list xs ms)).length:Nat):Int):=by
  rw [dS]
  split<;>omega
 have al8:List.take (min 20 ((ints 60).filter (jq list xs ms)).length) (bF ((ints 60).filter (jq list xs ms)))=bF (mF list xs ms):=by
  unfold mF;rw [ON]
  by_cases h20:20≤((ints 60).filter (jq list xs ms)).length
  ·rw [Nat.min_eq_left h20]
  ·rw [Nat.min_eq_right (by omega),List.take_of_length_le (by rw [dS];omega),List.take_of_length_le (by rw [dS];omega)]
 have Az:=lF (bF (mF list xs ms)) (by rw [dS];unfold mF;rw [List.length_take];omega);unfold v8;delta aA bt;rw [c2,hm];simp only [Option.bind_some];rw [Se];simp only [jI,al7,abO,Option.bind_some,asR,ax,cond_true,aG,List.drop_zero,al8,Az,ak (show ((min 20 ((ints 60).filter (jq list xs ms)).length:Nat):Int)≤((List.length (bF ((ints 60).filter (jq list xs ms))):Nat):Int) by rw [dS];omega)]
end Go.TM
set_option linter.unusedSimpArgs false
set_option linter.unusedVariables false
namespace Go.TM
open Go
theorem MM {xs:aU} {s:Int}:hasB xs s=true↔∃r∈xs,r.1=s:=by
 unfold hasB ey;rw [List.find?_isSome];simp only [decide_eq_true_eq]
theorem FB {r m:dY}:{xs:aU}→r∈xs→r∈mh xs m
 | [],h=>by cases h
 |x::xs,h=>by
  unfold mh
  split
  ·rcases List.mem_cons.1 h with rfl | h
   ·exact List.mem_cons_self
   ·exact List.mem_cons_of_mem _ (FB h)
  ·split
   ·exact h
   ·exact List.mem_cons_of_mem _ h
theorem OO {xs ys:aU} (hx:xs.length≤1048576) (hy:ys.length≤1048576) (h:∀r∈xs,∃q∈ys,q.1=r.1):cY xs≤cY ys:=by
 obtain ⟨_,a1,_⟩:=(xC xs hx).2.2;obtain ⟨_,_,b2⟩:=(xC ys hy).2.2
 by_cases dO:cY ys<cY xs
 ·have h1:=a1 _ dO;obtain ⟨r,hr,e⟩:=MM.1 h1;obtain ⟨q,hq,e2⟩:=h r hr;have:hasB ys ((cY ys+1:Nat):Int)=true:=MM.2 ⟨q,hq,e2.trans e⟩;unfold hasB at this;rw [b2] at this
  cases this
 ·omega
def cP (xs:aU) (fs:aU):aU:=fs.foldl mh xs
theorem uR:(fs:aU)→{xs:aU}→fa xs xs.length→(∀f∈fs,p8 f)→fa (cP xs fs) (cP xs fs).length
 | [],_,h,_=>h
 |f::fs,_,h,hf=>uR fs (zL h (hf f List.mem_cons_self)) fun g hg=>hf g (List.mem_cons_of_mem _ hg)
theorem Gn {r:dY}:(fs:aU)→{xs:aU}→r∈xs→r∈cP xs fs
 | [],_,h=>h
 |_::fs,_,h=>Gn fs (FB h)
theorem QS {c2 d:Int} {lv:dG} {tx:List (ByteArray×Unit)} {k j:Nat} (hc:0≤c2∧c2+((k:Nat):Int)≤60) (hd:1≤d∧d≤5) (hk:k≤tx.length) (hs:kI tx tx.length) (hj:j<k):p8 (BQ c2 d lv tx j):=by
 have h1:j<tx.length:=by omega
 have hgt:(tx.getD j (ByteArray.empty,())).1=tx[j].1:=by rw [List.getD_eq_getElem?_getD,List.getElem?_eq_getElem h1,Option.getD_some]
 refine ⟨⟨?_,?_⟩,hd,?_,?_⟩
 ·show 1≤c2+((j+1:Nat):Int);omega
 ·show c2+((j+1:Nat):Int)≤60;omega
 ·show 1≤(bif decide (j<lv.length)&&decide ((lv.getD j ((0:Int),())).1=2) then (2:Int) else 1)∧(bif decide (j<lv.length)&&decide ((lv.getD j ((0:Int),())).1=2) then (2:Int) else 1)≤2
  cases decide (j<lv.length)&&decide ((lv.getD j ((0:Int),())).1=2)<;>decide
 ·show ByteArray.size (tx.getD j (ByteArray.empty,())).1≤60;rw [hgt];exact hs j h1 h1
theorem Gp {c2 d:Int} {lv:dG} {tx:List (ByteArray×Unit)} {k:Nat} (hc:0≤c2∧c2+((k:Nat):Int)≤60) (hd:1≤d∧d≤5) (hk:k≤tx.length) (hs:kI tx tx.length):∀f∈eM c2 d lv tx k,p8 f:=by
 intro f hf;unfold eM at hf;obtain ⟨j,hj,rfl⟩:=List.mem_map.1 hf;exact QS hc hd hk hs (List.mem_range.1 hj)
def xa (t:kJ) (xs:aU):aU:=xs.filter fun r=>decide (r.1∈cm t.2.2.2.2.2.1)
theorem Ys (t:kJ) (xs:aU) (h:xs.length≤1048576) (hw:t.2.2.2.2.2.1.length≤1048576):xW t.1 t.2.1 t.2.2.1 t.2.2.2.1 t.2.2.2.2.1 t.2.2.2.2.2.1 xs=some (xa t xs,())∧x8 t.1 t.2.1 t.2.2.1 t.2.2.2.1 t.2.2.2.2.1 t.2.2.2.2.2.1 xs=some (xa t xs,()):=by
 have hlen:∀k,((xs.take k).filter fun r=>decide (r.1∈cm t.2.2.2.2.2.1)).length≤k:=fun k=>Nat.le_trans (List.length_filter_le _ _) (List.length_take_le _ _)
 constructor
 ·have hl:=ck (round:=n7) (e:=.inl (xa t xs,())) xs.length (fun k=>(xs,t.1,t.2.1,t.2.2.1,t.2.2.2.1,t.2.2.2.2.1,t.2.2.2.2.2.1,(xs.take k).filter (fun r=>decide (r.1∈cm t.2.2.2.2.2.1)),((k:Nat):Int),())) (by
   simp only [n7,bC,yG,aA,aN,cond_false,List.take_length,xa]) (fun k hk=>by
   have LV:=hlen k;simp only [n7,bC,yG,aA,aF hk,ax,cond_true,aG,List.getElem?_eq_getElem hk,Option.bind_some,MI _ _ hw,aS (show (((xs.take k).filter fun r=>decide (r.1∈cm t.2.2.2.2.2.1)).length+1)*40≤lim by unfold lim;omega),aM (show k<4611686018427387904 by omega)];rw [List.take_succ_eq_append_getElem hk,List.filter_append]
   cases hp:decide (xs[k].1∈cm t.2.2.2.2.2.1)
   ·rw [List.filter_cons_of_neg (by rw [hp];simp)];simp
   ·rw [List.filter_cons_of_pos (by rw [hp])];rfl)
  have hl:aJ n7 (xs,t.1,t.2.1,t.2.2.1,t.2.2.2.1,t.2.2.2.2.1,t.2.2.2.2.2.1,[],(0:Int),())=_:=hl;unfold xW;rw [hl];rfl
 ·have hl:=ck (round:=ou) (e:=.inl (xa t xs,())) xs.length (fun k=>(t.1,t.2.1,t.2.2.1,t.2.2.2.1,t.2.2.2.2.1,t.2.2.2.2.2.1,(xs.take k).filter (fun r=>decide (r.1∈cm t.2.2.2.2.2.1)),xs,((List.length xs:Nat):Int),((k:Nat):Int),())) (by
   simp only [ou,bC,zw,aA,aN,cond_false,List.take_length,xa]) (fun k hk=>by
   have LV:=hlen k;simp only [ou,bC,zw,aA,aF hk,ax,cond_true,aG,List.getElem?_eq_getElem hk,Option.bind_some,MJ _ _ hw,aS (show (((xs.take k).filter fun r=>decide (r.1∈cm t.2.2.2.2.2.1)).length+1)*40≤lim by unfold lim;omega),aM (show k<4611686018427387904 by omega)];rw [List.take_succ_eq_append_getElem hk,List.filter_append]
   cases hp:decide (xs[k].1∈cm t.2.2.2.2.2.1)
   ·rw [List.filter_cons_of_neg (by rw [hp];simp)];simp
   ·rw [List.filter_cons_of_pos (by rw [hp])];rfl)
  have hl:aJ ou (t.1,t.2.1,t.2.2.1,t.2.2.2.1,t.2.2.2.2.1,t.2.2.2.2.2.1,[],xs,((List.length xs:Nat):Int),(0:Int),())=_:=hl;unfold x8;rw [hl];rfl
theorem Yt {t:kJ} {xs:aU} {r:dY} (h:r∈xa t xs):r∈xs:=(List.mem_filter.1 h).1
theorem Yu (t:kJ) (xs:aU):(xa t xs).length≤xs.length:=List.length_filter_le _ _
end Go.TM
