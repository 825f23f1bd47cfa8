/- Sizes, copies, sameness: what the laws' own helping functions answer. -/
import Derived.Test.YtlgnmloddedbaaaGreatQF2
set_option linter.unusedSimpArgs false
set_option linter.unusedVariables false
namespace Go.TM
open Go
theorem _root_.And.q {A B C D E F:Prop} (x:A∧B∧C∧D∧E∧F):F:=x.2.2.2.2.2
def JG (x:Int×Unit):Prop:=(-9223372036854775808≤x.1∧x.1<9223372036854775808)∧True
theorem z_i {x:Int×Unit} (h:Af jT x):JG x:=⟨fL (ai.1 h).1,trivial⟩
def jN (_:Int×Unit):Nat:=0
theorem Hw (a0:aJ) {left:Int} (hz:List.length a0≤9223372036854775807∧∀y∈a0,JG y) (h0:0≤left) (h1:left≤1048576):Left (mU a0 left) (List.length a0+wl jN a0) left:=by
 obtain ⟨hlen,Kk⟩:=hz;unfold mU;rw [dk (by omega) (by omega)]
 by_cases hd:left-((List.length a0:Nat):Int)<0
 ·rw [aj hd];exact ⟨-1,rfl,by omega,by omega⟩
 rw [aq hd];simp only [cond_false];have hw:wl jN a0=0:=qG _ (fun _=>rfl) _;exact ⟨_,rfl,by omega,by intro;omega⟩
def Zk (x:Int×aJ×Unit):Prop:=(-9223372036854775808≤x.1∧x.1<9223372036854775808)∧(List.length x.2.1≤9223372036854775807∧∀y∈x.2.1,JG y)∧True
def K1 (x:Int×aJ×Unit):Nat:=(List.length x.2.1+wl jN x.2.1)
theorem Me (bk:Int) (aT:aJ) {left:Int} (hz:Zk (bk,aT,())) (h0:0≤left) (h1:left≤1048576):Left (pB bk aT left) (K1 (bk,aT,())) left:=by
 have hz:(-9223372036854775808≤bk∧bk<9223372036854775808)∧(List.length aT≤9223372036854775807∧∀y∈aT,JG y)∧True:=hz;show Left _ ((List.length aT+wl jN aT)) left;obtain ⟨z0,z1,_⟩:=hz;unfold pB;obtain ⟨m1,e1,l1,w1⟩:=Hw aT (left:=left) z1 (by omega) (by omega);rw [e1];simp only [Option.bind_some]
 by_cases UX:m1<0
 ·rw [aj UX];exact ⟨-1,rfl,by omega,by omega⟩
 rw [aq UX];simp only [cond_false];have w1:=w1 (by omega);exact ⟨_,rfl,by omega,by intro;omega⟩
def xK (x:lS):Prop:=(-9223372036854775808≤x.1∧x.1<9223372036854775808)∧(-9223372036854775808≤x.2.1∧x.2.1<9223372036854775808)∧(-9223372036854775808≤x.2.2.1∧x.2.2.1<9223372036854775808)∧(ByteArray.size x.2.2.2.1≤9223372036854775807)∧True
theorem K2 {x:lS} (h:Af aG x):xK x:=⟨fL (ai.1 h).1,fL (ai.1 (ai.1 h).2).1,fL (ai.1 (ai.1 (ai.1 h).2).2).1,Km (ai.1 (ai.1 (ai.1 (ai.1 h).2).2).2).1,trivial⟩
def bP (x:lS):Nat:=ByteArray.size x.2.2.2.1
theorem Mf (bk:Int) (aT:Int) (a8:Int) (a7:ByteArray) {left:Int} (hz:xK (bk,aT,a8,a7,())) (h0:0≤left) (h1:left≤1048576):Left (pC bk aT a8 a7 left) (bP (bk,aT,a8,a7,())) left:=by
 have hz:(-9223372036854775808≤bk∧bk<9223372036854775808)∧(-9223372036854775808≤aT∧aT<9223372036854775808)∧(-9223372036854775808≤a8∧a8<9223372036854775808)∧(ByteArray.size a7≤9223372036854775807)∧True:=hz;show Left _ (ByteArray.size a7) left;obtain ⟨z0,z1,z2,z3,_⟩:=hz;unfold pC;rw [dk (by omega) (by omega)]
 by_cases Ut:left-((ByteArray.size a7:Nat):Int)<0
 ·rw [aj Ut];exact ⟨-1,rfl,by omega,by omega⟩
 rw [aq Ut];simp only [cond_false];exact ⟨_,rfl,by omega,by intro;omega⟩
theorem EH (a0:ah) {left:Int} (hz:List.length a0≤9223372036854775807∧∀y∈a0,xK y) (h0:0≤left) (h1:left≤1048576):Left (lu a0 left) (List.length a0+wl bP a0) left:=by
 obtain ⟨hlen,Kk⟩:=hz;unfold lu;rw [dk (by omega) (by omega)]
 by_cases hd:left-((List.length a0:Nat):Int)<0
 ·rw [aj hd];exact ⟨-1,rfl,by omega,by omega⟩
 rw [aq hd];simp only [cond_false];obtain ⟨e,he,hq⟩:=cL (round:=j9) (x:=(a0,left-((List.length a0:Nat):Int),((0:Nat):Int),())) a0.length (fun k x=>∃m:Int,x=(a0,m,((k:Nat):Int),())∧0≤m∧((a0.length+wl bP (a0.take k):Nat):Int)+m≤left)
  (fun e=>match e with
   |.inl y=>0≤y.1∧((a0.length+wl bP a0:Nat):Int)+y.1≤left
   |.inr y=>y.1 = -1) (by
   rintro x ⟨m,rfl,g1,g2⟩
   refine ⟨.inl (m,()),?_,g1,by rw [List.take_length] at g2;exact g2⟩;simp only [j9,pX,aD,cond_false]) (by
   rintro k x hk ⟨m,rfl,g1,g2⟩
   have hw:=sV bP a0 hk;have hz:=Kk _ (List.getElem_mem hk);obtain ⟨m',e',l',w'⟩:=Mf ((a0[k]).1) ((a0[k]).2.1) ((a0[k]).2.2.1) ((a0[k]).2.2.2.1) (left:=m) hz g1 (by omega);have w':0≤m'→((bP a0[k]:Nat):Int)+m'≤m:=w';simp only [j9,pX,az hk,aw,cond_true,aC,List.getElem?_eq_getElem hk,Option.bind_some,e',aE (show k<4611686018427387904 by omega)]
   by_cases hm:m'<0
   ·rw [aj hm];exact .inl ⟨.inr (-1,()),rfl,rfl⟩
   ·rw [aq hm];have w':=w' (by omega);exact .inr ⟨_,rfl,_,rfl,by omega,by omega⟩)
   ⟨_,rfl,by omega,by rw [List.take_zero,Ej];omega⟩
 rw [show (0:Int)=((0:Nat):Int) from rfl,he]
 cases e with
 |inl y=>exact ⟨y.1,rfl,by have:=hq.1;omega,fun _=>hq.2⟩
 |inr y=>exact ⟨y.1,rfl,by rw [show y.1 = -1 from hq];omega,by rw [show y.1 = -1 from hq];omega⟩
def Z_s (x:ByteArray×Unit):Prop:=(ByteArray.size x.1≤9223372036854775807)∧True
theorem z_s {x:ByteArray×Unit} (h:Af xo x):Z_s x:=⟨Km (ai.1 h).1,trivial⟩
def FG (x:ByteArray×Unit):Nat:=ByteArray.size x.1
theorem K3 (a0:fA) {left:Int} (hz:List.length a0≤9223372036854775807∧∀y∈a0,Z_s y) (h0:0≤left) (h1:left≤1048576):Left (ns a0 left) (List.length a0+wl FG a0) left:=by
 obtain ⟨hlen,Kk⟩:=hz;unfold ns;rw [dk (by omega) (by omega)]
 by_cases hd:left-((List.length a0:Nat):Int)<0
 ·rw [aj hd];exact ⟨-1,rfl,by omega,by omega⟩
 rw [aq hd];simp only [cond_false];obtain ⟨e,he,hq⟩:=cL (round:=iI) (x:=(a0,left-((List.length a0:Nat):Int),((0:Nat):Int),())) a0.length (fun k x=>∃m:Int,x=(a0,m,((k:Nat):Int),())∧0≤m∧((a0.length+wl FG (a0.take k):Nat):Int)+m≤left)
  (fun e=>match e with
   |.inl y=>0≤y.1∧((a0.length+wl FG a0:Nat):Int)+y.1≤left
   |.inr y=>y.1 = -1) (by
   rintro x ⟨m,rfl,g1,g2⟩
   refine ⟨.inl (m,()),?_,g1,by rw [List.take_length] at g2;exact g2⟩;simp only [iI,nr,aD,cond_false]) (by
   rintro k x hk ⟨m,rfl,g1,g2⟩
   have hw:=sV FG a0 hk;have hz:=Kk _ (List.getElem_mem hk);have hs:ByteArray.size a0[k].1≤9223372036854775807:=hz.1;have hw:wl FG (a0.take (k+1))=wl FG (a0.take k)+ByteArray.size a0[k].1:=hw;simp only [iI,nr,az hk,aw,cond_true,aC,List.getElem?_eq_getElem hk,Option.bind_some,aE (show k<4611686018427387904 by omega)];rw [dk (by omega) (by omega)]
   by_cases hm:m-((ByteArray.size a0[k].1:Nat):Int)<0
   ·rw [aj hm];exact .inl ⟨.inr (-1,()),rfl,rfl⟩
   ·rw [aq hm];exact .inr ⟨_,rfl,_,rfl,by omega,by omega⟩)
   ⟨_,rfl,by omega,by rw [List.take_zero,Ej];omega⟩
 rw [show (0:Int)=((0:Nat):Int) from rfl,he]
 cases e with
 |inl y=>exact ⟨y.1,rfl,by have:=hq.1;omega,fun _=>hq.2⟩
 |inr y=>exact ⟨y.1,rfl,by rw [show y.1 = -1 from hq];omega,by rw [show y.1 = -1 from hq];omega⟩
def K4 (x:gS):Prop:=(-9223372036854775808≤x.1∧x.1<9223372036854775808)∧(-9223372036854775808≤x.2.1∧x.2.1<9223372036854775808)∧(-9223372036854775808≤x.2.2.1∧x.2.2.1<9223372036854775808)∧(-9223372036854775808≤x.2.2.2.1∧x.2.2.2.1<9223372036854775808)∧(-9223372036854775808≤x.2.2.2.2.1∧x.2.2.2.2.1<9223372036854775808)∧(List.length x.q.1≤9223372036854775807∧∀y∈x.q.1,JG y)∧True
def Aa (x:gS):Nat:=(List.length x.q.1+wl jN x.q.1)
theorem Jf (bk:Int) (aT:Int) (a8:Int) (a7:Int) (bt:Int) (bh:aJ) {left:Int} (hz:K4 (bk,aT,a8,a7,bt,bh,())) (h0:0≤left) (h1:left≤1048576):Left (nt bk aT a8 a7 bt bh left) (Aa (bk,aT,a8,a7,bt,bh,())) left:=by
 have hz:(-9223372036854775808≤bk∧bk<9223372036854775808)∧(-9223372036854775808≤aT∧aT<9223372036854775808)∧(-9223372036854775808≤a8∧a8<9223372036854775808)∧(-9223372036854775808≤a7∧a7<9223372036854775808)∧(-9223372036854775808≤bt∧bt<9223372036854775808)∧(List.length bh≤9223372036854775807∧∀y∈bh,JG y)∧True:=hz;show Left _ ((List.length bh+wl jN bh)) left;obtain ⟨z0,z1,z2,z3,z4,z5,_⟩:=hz;unfold nt;obtain ⟨m5,e5,l5,w5⟩:=Hw bh (left:=left) z5 (by omega) (by omega);rw [e5];simp only [Option.bind_some]
 by_cases Uu:m5<0
 ·rw [aj Uu];exact ⟨-1,rfl,by omega,by omega⟩
 rw [aq Uu];simp only [cond_false];have w5:=w5 (by omega);exact ⟨_,rfl,by omega,by intro;omega⟩
def cz (x:au):Prop:=(-9223372036854775808≤x.1∧x.1<9223372036854775808)∧(-9223372036854775808≤x.2.1∧x.2.1<9223372036854775808)∧(List.length x.2.2.1≤9223372036854775807∧∀y∈x.2.2.1,JG y)∧(List.length x.2.2.2.1≤9223372036854775807∧∀y∈x.2.2.2.1,xK y)∧(List.length x.2.2.2.2.1≤9223372036854775807∧∀y∈x.2.2.2.2.1,JG y)∧(List.length x.q.1≤9223372036854775807∧∀y∈x.q.1,Z_s y)∧(-9223372036854775808≤x.q.2.1∧x.q.2.1<9223372036854775808)∧(-9223372036854775808≤x.q.2.2.1∧x.q.2.2.1<9223372036854775808)∧(-9223372036854775808≤x.q.2.2.2.1∧x.q.2.2.2.1<9223372036854775808)∧(-9223372036854775808≤x.q.2.2.2.2.1∧x.q.2.2.2.2.1<9223372036854775808)∧(-9223372036854775808≤x.q.q.1∧x.q.q.1<9223372036854775808)∧(-9223372036854775808≤x.q.q.2.1∧x.q.q.2.1<9223372036854775808)∧(-9223372036854775808≤x.q.q.2.2.1∧x.q.q.2.2.1<9223372036854775808)∧(-9223372036854775808≤x.q.q.2.2.2.1∧x.q.q.2.2.2.1<9223372036854775808)∧(-9223372036854775808≤x.q.q.2.2.2.2.1∧x.q.q.2.2.2.2.1<9223372036854775808)∧(List.length x.q.q.q.1≤9223372036854775807∧∀y∈x.q.q.q.1,JG y)∧True
theorem nZ {x:au} (h:Af aI x):cz x:=⟨fL (ai.1 h).1,fL (ai.1 (ai.1 h).2).1,⟨pW (ai.1 (ai.1 (ai.1 h).2).2).1,fun y hy=>z_i (wo (ai.1 (ai.1 (ai.1 h).2).2).1 y hy)⟩,⟨pW (ai.1 (ai.1 (ai.1 (ai.1 h).2).2).2).1,fun y hy=>K2 (wo (ai.1 (ai.1 (ai.1 (ai.1 h).2).2).2).1 y hy)⟩,⟨pW (ai.1 (ai.1 (ai.1 (ai.1 (ai.1 h).2).2).2).2).1,fun y hy=>z_i (wo (ai.1 (ai.1 (ai.1 (ai.1 (ai.1 h).2).2).2).2).1 y hy)⟩,⟨pW (ai.1 (ai.1 (ai.1 (ai.1 (ai.1 (ai.1 h).2).2).2).2).2).1,fun y hy=>z_s (wo (ai.1 (ai.1 (ai.1 (ai.1 (ai.1 (ai.1 h).2).2).2).2).2).1 y hy)⟩,fL (ai.1 (ai.1 (ai.1 (ai.1 (ai.1 (ai.1 (ai.1 h).2).2).2).2).2).2).1,fL (ai.1 (ai.1 (ai.1 (ai.1 (ai.1 (ai.1 (ai.1 (ai.1 h).2).2).2).2).2).2).2).1,fL (ai.1 (ai.1 (ai.1 (ai.1 (ai.1 (ai.1 (ai.1 (ai.1 (ai.1 h).2).2).2).2).2).2).2).2).1,fL (ai.1 (ai.1 (ai.1 (ai.1 (ai.1 (ai.1 (ai.1 (ai.1 (ai.1 (ai.1 h).2).2).2).2).2).2).2).2).2).1,fL (ai.1 (ai.1 (ai.1 (ai.1 (ai.1 (ai.1 (ai.1 (ai.1 (ai.1 (ai.1 (ai.1 h).2).2).2).2).2).2).2).2).2).2).1,fL (ai.1 (ai.1 (ai.1 (ai.1 (ai.1 (ai.1 (ai.1 (ai.1 (ai.1 (ai.1 (ai.1 (ai.1 h).2).2).2).2).2).2).2).2).2).2).2).1,fL (ai.1 (ai.1 (ai.1 (ai.1 (ai.1 (ai.1 (ai.1 (ai.1 (ai.1 (ai.1 (ai.1 (ai.1 (ai.1 h).2).2).2).2).2).2).2).2).2).2).2).2).1,fL (ai.1 (ai.1 (ai.1 (ai.1 (ai.1 (ai.1 (ai.1 (ai.1 (ai.1 (ai.1 (ai.1 (ai.1 (ai.1 (ai.1 h).2).2).2).2).2).2).2).2).2).2).2).2).2).1,fL (ai.1 (ai.1 (ai.1 (ai.1 (ai.1 (ai.1 (ai.1 (ai.1 (ai.1 (ai.1 (ai.1 (ai.1 (ai.1 (ai.1 (ai.1 h).2).2).2).2).2).2).2).2).2).2).2).2).2).2).1,⟨pW (ai.1 (ai.1 (ai.1 (ai.1 (ai.1 (ai.1 (ai.1 (ai.1 (ai.1 (ai.1 (ai.1 (ai.1 (ai.1 (ai.1 (ai.1 (ai.1 h).2).2).2).2).2).2).2).2).2).2).2).2).2).2).2).1,fun y hy=>z_i (wo (ai.1 (ai.1 (ai.1 (ai.1 (ai.1 (ai.1 (ai.1 (ai.1 (ai.1 (ai.1 (ai.1 (ai.1 (ai.1 (ai.1 (ai.1 (ai.1 h).2).2).2).2).2).2).2).2).2).2).2).2).2).2).2).1 y hy)⟩,trivial⟩
def ak (x:au):Nat:=(List.length x.2.2.1+wl jN x.2.2.1)+(List.length x.2.2.2.1+wl bP x.2.2.2.1)+(List.length x.2.2.2.2.1+wl jN x.2.2.2.2.1)+(List.length x.q.1+wl FG x.q.1)+(List.length x.q.q.q.1+wl jN x.q.q.q.1)
theorem S7 (bk:Int) (aT:Int) (a8:aJ) (a7:ah) (bt:aJ) (bh:fA) (jo:Int) (fq:Int) (jq:Int) (jr:Int) (dG:Int) (cP:Int) (lO:Int) (lP:Int) (lQ:Int) (fD:aJ) {left:Int} (hz:cz (bk,aT,a8,a7,bt,bh,jo,fq,jq,jr,dG,cP,lO,lP,lQ,fD,())) (h0:0≤left) (h1:left≤1048576):Left (sX bk aT a8 a7 bt bh jo fq jq jr dG cP lO lP lQ fD left) (ak (bk,aT,a8,a7,bt,bh,jo,fq,jq,jr,dG,cP,lO,lP,lQ,fD,())) left:=by
 have hz:(-9223372036854775808≤bk∧bk<9223372036854775808)∧(-9223372036854775808≤aT∧aT<9223372036854775808)∧(List.length a8≤9223372036854775807∧∀y∈a8,JG y)∧(List.length a7≤9223372036854775807∧∀y∈a7,xK y)∧(List.length bt≤9223372036854775807∧∀y∈bt,JG y)∧(List.length bh≤9223372036854775807∧∀y∈bh,Z_s y)∧(-9223372036854775808≤jo∧jo<9223372036854775808)∧(-9223372036854775808≤fq∧fq<9223372036854775808)∧(-9223372036854775808≤jq∧jq<9223372036854775808)∧(-9223372036854775808≤jr∧jr<9223372036854775808)∧(-9223372036854775808≤dG∧dG<9223372036854775808)∧(-9223372036854775808≤cP∧cP<9223372036854775808)∧(-9223372036854775808≤lO∧lO<9223372036854775808)∧(-9223372036854775808≤lP∧lP<9223372036854775808)∧(-9223372036854775808≤lQ∧lQ<9223372036854775808)∧(List.length fD≤9223372036854775807∧∀y∈fD,JG y)∧True:=hz;show Left _ ((List.length a8+wl jN a8)+(List.length a7+wl bP a7)+(List.length bt+wl jN bt)+(List.length bh+wl FG bh)+(List.length fD+wl jN fD)) left;obtain ⟨z0,z1,z2,z3,z4,z5,z6,z7,z8,z9,z10,z11,z12,z13,z14,z15,_⟩:=hz;unfold sX;obtain ⟨m1,e1,l1,w1⟩:=Me aT a8 (left:=left) ⟨z1,z2,trivial⟩ (by omega) (by omega);have w1:0≤m1→(((List.length a8+wl jN a8):Nat):Int)+m1≤left:=w1;rw [e1];simp only [Option.bind_some]
 by_cases UX:m1<0
 ·rw [aj UX];exact ⟨-1,rfl,by omega,by omega⟩
 rw [aq UX];simp only [cond_false];have w1:=w1 (by omega);obtain ⟨m3,e3,l3,w3⟩:=EH a7 (left:=m1) z3 (by omega) (by omega);rw [e3];simp only [Option.bind_some]
 by_cases Ut:m3<0
 ·rw [aj Ut];exact ⟨-1,rfl,by omega,by omega⟩
 rw [aq Ut];simp only [cond_false];have w3:=w3 (by omega);obtain ⟨m4,e4,l4,w4⟩:=Hw bt (left:=m3) z4 (by omega) (by omega);rw [e4];simp only [Option.bind_some]
 by_cases hd4:m4<0
 ·rw [aj hd4];exact ⟨-1,rfl,by omega,by omega⟩
 rw [aq hd4];simp only [cond_false];have w4:=w4 (by omega);obtain ⟨m5,e5,l5,w5⟩:=K3 bh (left:=m4) z5 (by omega) (by omega);rw [e5];simp only [Option.bind_some]
 by_cases Uu:m5<0
 ·rw [aj Uu];exact ⟨-1,rfl,by omega,by omega⟩
 rw [aq Uu];simp only [cond_false];have w5:=w5 (by omega);obtain ⟨m10,Zl,Jd,w10⟩:=Jf dG cP lO lP lQ fD (left:=m5) ⟨z10,z11,z12,z13,z14,z15,trivial⟩ (by omega) (by omega);have w10:0≤m10→(((List.length fD+wl jN fD):Nat):Int)+m10≤m5:=w10;rw [Zl];simp only [Option.bind_some]
 by_cases aeL:m10<0
 ·rw [aj aeL];exact ⟨-1,rfl,by omega,by omega⟩
 rw [aq aeL];simp only [cond_false];have w10:=w10 (by omega);exact ⟨_,rfl,by omega,by intro;omega⟩
theorem Q4 (a0:aa) {left:Int} (hz:List.length a0≤9223372036854775807∧∀y∈a0,cz y) (h0:0≤left) (h1:left≤1048576):Left (qH a0 left) (List.length a0+wl ak a0) left:=by
 obtain ⟨hlen,Kk⟩:=hz;unfold qH;rw [dk (by omega) (by omega)]
 by_cases hd:left-((List.length a0:Nat):Int)<0
 ·rw [aj hd];exact ⟨-1,rfl,by omega,by omega⟩
 rw [aq hd];simp only [cond_false];obtain ⟨e,he,hq⟩:=cL (round:=ka) (x:=(a0,left-((List.length a0:Nat):Int),((0:Nat):Int),())) a0.length (fun k x=>∃m:Int,x=(a0,m,((k:Nat):Int),())∧0≤m∧((a0.length+wl ak (a0.take k):Nat):Int)+m≤left)
  (fun e=>match e with
   |.inl y=>0≤y.1∧((a0.length+wl ak a0:Nat):Int)+y.1≤left
   |.inr y=>y.1 = -1) (by
   rintro x ⟨m,rfl,g1,g2⟩
   refine ⟨.inl (m,()),?_,g1,by rw [List.take_length] at g2;exact g2⟩;simp only [ka,pY,aD,cond_false]) (by
   rintro k x hk ⟨m,rfl,g1,g2⟩
   have hw:=sV ak a0 hk;have hz:=Kk _ (List.getElem_mem hk);obtain ⟨m',e',l',w'⟩:=S7 ((a0[k]).1) ((a0[k]).2.1) ((a0[k]).2.2.1) ((a0[k]).2.2.2.1) ((a0[k]).2.2.2.2.1) ((a0[k]).q.1) ((a0[k]).q.2.1) ((a0[k]).q.2.2.1) ((a0[k]).q.2.2.2.1) ((a0[k]).q.2.2.2.2.1) ((a0[k]).q.q.1) ((a0[k]).q.q.2.1) ((a0[k]).q.q.2.2.1) ((a0[k]).q.q.2.2.2.1) ((a0[k]).q.q.2.2.2.2.1) ((a0[k]).q.q.q.1) (left:=m) hz g1 (by omega);have w':0≤m'→((ak a0[k]:Nat):Int)+m'≤m:=w';simp only [ka,pY,az hk,aw,cond_true,aC,List.getElem?_eq_getElem hk,Option.bind_some,e',aE (show k<4611686018427387904 by omega)]
   by_cases hm:m'<0
   ·rw [aj hm];exact .inl ⟨.inr (-1,()),rfl,rfl⟩
   ·rw [aq hm];have w':=w' (by omega);exact .inr ⟨_,rfl,_,rfl,by omega,by omega⟩)
   ⟨_,rfl,by omega,by rw [List.take_zero,Ej];omega⟩
 rw [show (0:Int)=((0:Nat):Int) from rfl,he]
 cases e with
 |inl y=>exact ⟨y.1,rfl,by have:=hq.1;omega,fun _=>hq.2⟩
 |inr y=>exact ⟨y.1,rfl,by rw [show y.1 = -1 from hq];omega,by rw [show y.1 = -1 from hq];omega⟩
def jK (x:a6):Prop:=(-9223372036854775808≤x.1∧x.1<9223372036854775808)∧(True)∧(-9223372036854775808≤x.2.2.1∧x.2.2.1<9223372036854775808)∧(-9223372036854775808≤x.2.2.2.1∧x.2.2.2.1<9223372036854775808)∧(-9223372036854775808≤x.2.2.2.2.1∧x.2.2.2.2.1<9223372036854775808)∧(-9223372036854775808≤x.q.1∧x.q.1<9223372036854775808)∧(-9223372036854775808≤x.q.2.1∧x.q.2.1<9223372036854775808)∧(List.length x.q.2.2.1≤9223372036854775807∧∀y∈x.q.2.2.1,JG y)∧(-9223372036854775808≤x.q.2.2.2.1∧x.q.2.2.2.1<9223372036854775808)∧(-9223372036854775808≤x.q.2.2.2.2.1∧x.q.2.2.2.2.1<9223372036854775808)∧(-9223372036854775808≤x.q.q.1∧x.q.q.1<9223372036854775808)∧(ByteArray.size x.q.q.2.1≤9223372036854775807)∧True
theorem Cd {x:a6} (h:Af bj x):jK x:=⟨fL (ai.1 h).1,trivial,fL (ai.1 (ai.1 (ai.1 h).2).2).1,fL (ai.1 (ai.1 (ai.1 (ai.1 h).2).2).2).1,fL (ai.1 (ai.1 (ai.1 (ai.1 (ai.1 h).2).2).2).2).1,fL (ai.1 (ai.1 (ai.1 (ai.1 (ai.1 (ai.1 h).2).2).2).2).2).1,fL (ai.1 (ai.1 (ai.1 (ai.1 (ai.1 (ai.1 (ai.1 h).2).2).2).2).2).2).1,⟨pW (ai.1 (ai.1 (ai.1 (ai.1 (ai.1 (ai.1 (ai.1 (ai.1 h).2).2).2).2).2).2).2).1,fun y hy=>z_i (wo (ai.1 (ai.1 (ai.1 (ai.1 (ai.1 (ai.1 (ai.1 (ai.1 h).2).2).2).2).2).2).2).1 y hy)⟩,fL (ai.1 (ai.1 (ai.1 (ai.1 (ai.1 (ai.1 (ai.1 (ai.1 (ai.1 h).2).2).2).2).2).2).2).2).1,fL (ai.1 (ai.1 (ai.1 (ai.1 (ai.1 (ai.1 (ai.1 (ai.1 (ai.1 (ai.1 h).2).2).2).2).2).2).2).2).2).1,fL (ai.1 (ai.1 (ai.1 (ai.1 (ai.1 (ai.1 (ai.1 (ai.1 (ai.1 (ai.1 (ai.1 h).2).2).2).2).2).2).2).2).2).2).1,Km (ai.1 (ai.1 (ai.1 (ai.1 (ai.1 (ai.1 (ai.1 (ai.1 (ai.1 (ai.1 (ai.1 (ai.1 h).2).2).2).2).2).2).2).2).2).2).2).1,trivial⟩
def aH (x:a6):Nat:=(List.length x.q.2.2.1+wl jN x.q.2.2.1)+ByteArray.size x.q.q.2.1
theorem Zm (bk:Int) (aT:Bool) (a8:Int) (a7:Int) (bt:Int) (bh:Int) (jo:Int) (fq:aJ) (jq:Int) (jr:Int) (dG:Int) (cP:ByteArray) {left:Int} (hz:jK (bk,aT,a8,a7,bt,bh,jo,fq,jq,jr,dG,cP,())) (h0:0≤left) (h1:left≤1048576):Left (u0 bk aT a8 a7 bt bh jo fq jq jr dG cP left) (aH (bk,aT,a8,a7,bt,bh,jo,fq,jq,jr,dG,cP,())) left:=by
 have hz:(-9223372036854775808≤bk∧bk<9223372036854775808)∧(True)∧(-9223372036854775808≤a8∧a8<9223372036854775808)∧(-9223372036854775808≤a7∧a7<9223372036854775808)∧(-9223372036854775808≤bt∧bt<9223372036854775808)∧(-9223372036854775808≤bh∧bh<9223372036854775808)∧(-9223372036854775808≤jo∧jo<9223372036854775808)∧(List.length fq≤9223372036854775807∧∀y∈fq,JG y)∧(-9223372036854775808≤jq∧jq<9223372036854775808)∧(-9223372036854775808≤jr∧jr<9223372036854775808)∧(-9223372036854775808≤dG∧dG<9223372036854775808)∧(ByteArray.size cP≤9223372036854775807)∧True:=hz;show Left _ ((List.length fq+wl jN fq)+ByteArray.size cP) left;obtain ⟨z0,z1,z2,z3,z4,z5,z6,z7,z8,z9,z10,z11,_⟩:=hz;unfold u0;obtain ⟨m2,e2,l2,w2⟩:=Jf a8 a7 bt bh jo fq (left:=left) ⟨z2,z3,z4,z5,z6,z7,trivial⟩ (by omega) (by omega);have w2:0≤m2→(((List.length fq+wl jN fq):Nat):Int)+m2≤left:=w2;rw [e2];simp only [Option.bind_some]
 by_cases Vs:m2<0
 ·rw [aj Vs];exact ⟨-1,rfl,by omega,by omega⟩
 rw [aq Vs];simp only [cond_false];have w2:=w2 (by omega);obtain ⟨m8,e8,l8,w8⟩:=Mf jq jr dG cP (left:=m2) ⟨z8,z9,z10,z11,trivial⟩ (by omega) (by omega);have w8:0≤m8→((ByteArray.size cP:Nat):Int)+m8≤m2:=w8;rw [e8];simp only [Option.bind_some]
 by_cases hd8:m8<0
 ·rw [aj hd8];exact ⟨-1,rfl,by omega,by omega⟩
 rw [aq hd8];simp only [cond_false];have w8:=w8 (by omega);exact ⟨_,rfl,by omega,by intro;omega⟩
theorem S8 (a0:ae) {left:Int} (hz:List.length a0≤9223372036854775807∧∀y∈a0,jK y) (h0:0≤left) (h1:left≤1048576):Left (sY a0 left) (List.length a0+wl aH a0) left:=by
 obtain ⟨hlen,Kk⟩:=hz;unfold sY;rw [dk (by omega) (by omega)]
 by_cases hd:left-((List.length a0:Nat):Int)<0
 ·rw [aj hd];exact ⟨-1,rfl,by omega,by omega⟩
 rw [aq hd];simp only [cond_false];obtain ⟨e,he,hq⟩:=cL (round:=kV) (x:=(a0,left-((List.length a0:Nat):Int),((0:Nat):Int),())) a0.length (fun k x=>∃m:Int,x=(a0,m,((k:Nat):Int),())∧0≤m∧((a0.length+wl aH (a0.take k):Nat):Int)+m≤left)
  (fun e=>match e with
   |.inl y=>0≤y.1∧((a0.length+wl aH a0:Nat):Int)+y.1≤left
   |.inr y=>y.1 = -1) (by
   rintro x ⟨m,rfl,g1,g2⟩
   refine ⟨.inl (m,()),?_,g1,by rw [List.take_length] at g2;exact g2⟩;simp only [kV,rP,aD,cond_false]) (by
   rintro k x hk ⟨m,rfl,g1,g2⟩
   have hw:=sV aH a0 hk;have hz:=Kk _ (List.getElem_mem hk);obtain ⟨m',e',l',w'⟩:=Zm ((a0[k]).1) ((a0[k]).2.1) ((a0[k]).2.2.1) ((a0[k]).2.2.2.1) ((a0[k]).2.2.2.2.1) ((a0[k]).q.1) ((a0[k]).q.2.1) ((a0[k]).q.2.2.1) ((a0[k]).q.2.2.2.1) ((a0[k]).q.2.2.2.2.1) ((a0[k]).q.q.1) ((a0[k]).q.q.2.1) (left:=m) hz g1 (by omega);have w':0≤m'→((aH a0[k]:Nat):Int)+m'≤m:=w';simp only [kV,rP,az hk,aw,cond_true,aC,List.getElem?_eq_getElem hk,Option.bind_some,e',aE (show k<4611686018427387904 by omega)]
   by_cases hm:m'<0
   ·rw [aj hm];exact .inl ⟨.inr (-1,()),rfl,rfl⟩
   ·rw [aq hm];have w':=w' (by omega);exact .inr ⟨_,rfl,_,rfl,by omega,by omega⟩)
   ⟨_,rfl,by omega,by rw [List.take_zero,Ej];omega⟩
 rw [show (0:Int)=((0:Nat):Int) from rfl,he]
 cases e with
 |inl y=>exact ⟨y.1,rfl,by have:=hq.1;omega,fun _=>hq.2⟩
 |inr y=>exact ⟨y.1,rfl,by rw [show y.1 = -1 from hq];omega,by rw [show y.1 = -1 from hq];omega⟩
def Bc (x:ah×Unit):Prop:=(List.length x.1≤9223372036854775807∧∀y∈x.1,xK y)∧True
theorem Q5 {x:ah×Unit} (h:Af fp x):Bc x:=⟨⟨pW (ai.1 h).1,fun y hy=>K2 (wo (ai.1 h).1 y hy)⟩,trivial⟩
def bD (x:ah×Unit):Nat:=(List.length x.1+wl bP x.1)
theorem Ol (a0:ax) {left:Int} (hz:List.length a0≤9223372036854775807∧∀y∈a0,Bc y) (h0:0≤left) (h1:left≤1048576):Left (oW a0 left) (List.length a0+wl bD a0) left:=by
 obtain ⟨hlen,Kk⟩:=hz;unfold oW;rw [dk (by omega) (by omega)]
 by_cases hd:left-((List.length a0:Nat):Int)<0
 ·rw [aj hd];exact ⟨-1,rfl,by omega,by omega⟩
 rw [aq hd];simp only [cond_false];obtain ⟨e,he,hq⟩:=cL (round:=js) (x:=(a0,left-((List.length a0:Nat):Int),((0:Nat):Int),())) a0.length (fun k x=>∃m:Int,x=(a0,m,((k:Nat):Int),())∧0≤m∧((a0.length+wl bD (a0.take k):Nat):Int)+m≤left)
  (fun e=>match e with
   |.inl y=>0≤y.1∧((a0.length+wl bD a0:Nat):Int)+y.1≤left
   |.inr y=>y.1 = -1) (by
   rintro x ⟨m,rfl,g1,g2⟩
   refine ⟨.inl (m,()),?_,g1,by rw [List.take_length] at g2;exact g2⟩;simp only [js,ot,aD,cond_false]) (by
   rintro k x hk ⟨m,rfl,g1,g2⟩
   have hw:=sV bD a0 hk;have hz:=Kk _ (List.getElem_mem hk);obtain ⟨m',e',l',w'⟩:=EH ((a0[k]).1) (left:=m) hz.1 g1 (by omega);have w':0≤m'→((bD a0[k]:Nat):Int)+m'≤m:=w';simp only [js,ot,az hk,aw,cond_true,aC,List.getElem?_eq_getElem hk,Option.bind_some,e',aE (show k<4611686018427387904 by omega)]
   by_cases hm:m'<0
   ·rw [aj hm];exact .inl ⟨.inr (-1,()),rfl,rfl⟩
   ·rw [aq hm];have w':=w' (by omega);exact .inr ⟨_,rfl,_,rfl,by omega,by omega⟩)
   ⟨_,rfl,by omega,by rw [List.take_zero,Ej];omega⟩
 rw [show (0:Int)=((0:Nat):Int) from rfl,he]
 cases e with
 |inl y=>exact ⟨y.1,rfl,by have:=hq.1;omega,fun _=>hq.2⟩
 |inr y=>exact ⟨y.1,rfl,by rw [show y.1 = -1 from hq];omega,by rw [show y.1 = -1 from hq];omega⟩
def ca (x:af):Prop:=(-9223372036854775808≤x.1∧x.1<9223372036854775808)∧(List.length x.2.1≤9223372036854775807∧∀y∈x.2.1,JG y)∧(List.length x.2.2.1≤9223372036854775807∧∀y∈x.2.2.1,cz y)∧(List.length x.2.2.2.1≤9223372036854775807∧∀y∈x.2.2.2.1,jK y)∧(List.length x.2.2.2.2.1≤9223372036854775807∧∀y∈x.2.2.2.2.1,Bc y)∧(List.length x.q.1≤9223372036854775807∧∀y∈x.q.1,xK y)∧True
def bp (x:af):Nat:=(List.length x.2.1+wl jN x.2.1)+(List.length x.2.2.1+wl ak x.2.2.1)+(List.length x.2.2.2.1+wl aH x.2.2.2.1)+(List.length x.2.2.2.2.1+wl bD x.2.2.2.2.1)+(List.length x.q.1+wl bP x.q.1)
theorem S9 (bk:Int) (aT:aJ) (a8:aa) (a7:ae) (bt:ax) (bh:ah) {left:Int} (hz:ca (bk,aT,a8,a7,bt,bh,())) (h0:0≤left) (h1:left≤1048576):Left (sZ bk aT a8 a7 bt bh left) (bp (bk,aT,a8,a7,bt,bh,())) left:=by
 have hz:(-9223372036854775808≤bk∧bk<9223372036854775808)∧(List.length aT≤9223372036854775807∧∀y∈aT,JG y)∧(List.length a8≤9223372036854775807∧∀y∈a8,cz y)∧(List.length a7≤9223372036854775807∧∀y∈a7,jK y)∧(List.length bt≤9223372036854775807∧∀y∈bt,Bc y)∧(List.length bh≤9223372036854775807∧∀y∈bh,xK y)∧True:=hz;show Left _ ((List.length aT+wl jN aT)+(List.length a8+wl ak a8)+(List.length a7+wl aH a7)+(List.length bt+wl bD bt)+(List.length bh+wl bP bh)) left;obtain ⟨z0,z1,z2,z3,z4,z5,_⟩:=hz;unfold sZ;obtain ⟨m0,e0,l0,w0⟩:=Me bk aT (left:=left) ⟨z0,z1,trivial⟩ (by omega) (by omega);have w0:0≤m0→(((List.length aT+wl jN aT):Nat):Int)+m0≤left:=w0;rw [e0];simp only [Option.bind_some]
 by_cases hd0:m0<0
 ·rw [aj hd0];exact ⟨-1,rfl,by omega,by omega⟩
 rw [aq hd0];simp only [cond_false];have w0:=w0 (by omega);obtain ⟨m2,e2,l2,w2⟩:=Q4 a8 (left:=m0) z2 (by omega) (by omega);rw [e2];simp only [Option.bind_some]
 by_cases Vs:m2<0
 ·rw [aj Vs];exact ⟨-1,rfl,by omega,by omega⟩
 rw [aq Vs];simp only [cond_false];have w2:=w2 (by omega);obtain ⟨m3,e3,l3,w3⟩:=S8 a7 (left:=m2) z3 (by omega) (by omega);rw [e3];simp only [Option.bind_some]
 by_cases Ut:m3<0
 ·rw [aj Ut];exact ⟨-1,rfl,by omega,by omega⟩
 rw [aq Ut];simp only [cond_false];have w3:=w3 (by omega);obtain ⟨m4,e4,l4,w4⟩:=Ol bt (left:=m3) z4 (by omega) (by omega);rw [e4];simp only [Option.bind_some]
 by_cases hd4:m4<0
 ·rw [aj hd4];exact ⟨-1,rfl,by omega,by omega⟩
 rw [aq hd4];simp only [cond_false];have w4:=w4 (by omega);obtain ⟨m5,e5,l5,w5⟩:=EH bh (left:=m4) z5 (by omega) (by omega);rw [e5];simp only [Option.bind_some]
 by_cases Uu:m5<0
 ·rw [aj Uu];exact ⟨-1,rfl,by omega,by omega⟩
 rw [aq Uu];simp only [cond_false];have w5:=w5 (by omega);exact ⟨_,rfl,by omega,by intro;omega⟩
theorem Hy (a0:aJ) (h:List.length a0+wl jN a0≤268435456):mV a0=some (a0,()):=by
 have hl:aF jt (a0,List.replicate a0.length ((0:Int),()),(0:Int),())=some (.inl (a0,())):=by
  have:=bI (round:=jt) (e:=.inl (a0,())) a0.length (fun k=>(a0,a0.take k++List.replicate (a0.length-k) ((0:Int),()),((k:Nat):Int),())) (by
   simp only [jt,rQ,aD,cond_false,List.take_length,Nat.sub_self,List.replicate_zero,List.append_nil]) (fun k hk=>by
   have hb:k<(a0.take k++List.replicate (a0.length-k) (((0:Int),()):Int×Unit)).length:=by simp;omega
   simp only [jt,rQ,az hk,aw,cond_true,aC,List.getElem?_eq_getElem hk,List.getElem?_eq_getElem hb,Option.bind_some,cX hb,aE (show k<4611686018427387904 by omega)];rw [←ui a0 _ hk])
  simpa using this
 unfold mV;simp only [decide_true,aw,cond_true,aC,aQ (show a0.length*8≤lim by unfold lim;omega),hl,cW]
theorem Mg (bk:Int) (aT:aJ) (h:K1 (bk,aT,())≤268435456):pD bk aT=some (bk,aT,()):=by
 have h:(List.length aT+wl jN aT)≤268435456:=h;unfold pD;simp only [Option.bind_some,Hy aT (by show (List.length aT+wl jN aT)≤268435456;omega)]
theorem Mh (bk:Int) (aT:Int) (a8:Int) (a7:ByteArray) (h:bP (bk,aT,a8,a7,())≤268435456):s4 bk aT a8 a7=some (bk,aT,a8,a7,()):=by
 have h:ByteArray.size a7≤268435456:=h;rfl
theorem EI (a0:ah) (h:List.length a0+wl bP a0≤268435456):lx a0=some (a0,()):=by
 have hl:aF iq (a0,List.replicate a0.length ((0:Int),(0:Int),(0:Int),ByteArray.empty,()),(0:Int),())=some (.inl (a0,())):=by
  have:=bI (round:=iq) (e:=.inl (a0,())) a0.length (fun k=>(a0,a0.take k++List.replicate (a0.length-k) ((0:Int),(0:Int),(0:Int),ByteArray.empty,()),((k:Nat):Int),())) (by
   simp only [iq,pZ,aD,cond_false,List.take_length,Nat.sub_self,List.replicate_zero,List.append_nil]) (fun k hk=>by
   have hb:k<(a0.take k++List.replicate (a0.length-k) (((0:Int),(0:Int),(0:Int),ByteArray.empty,()):lS)).length:=by simp;omega
   simp only [iq,pZ,az hk,aw,cond_true,aC,List.getElem?_eq_getElem hk,List.getElem?_eq_getElem hb,Option.bind_some,cX hb,aE (show k<4611686018427387904 by omega),Mh ((a0[k]).1) ((a0[k]).2.1) ((a0[k]).2.2.1) ((a0[k]).2.2.2.1) (Nat.le_trans (mJ bP a0 _ (List.getElem_mem hk)) (by omega))];rw [←ui a0 _ hk])
  simpa using this
 unfold lx;simp only [decide_true,aw,cond_true,aC,aQ (show a0.length*40≤lim by unfold lim;omega),hl,cW]
theorem K5 (a0:fA) (h:List.length a0+wl FG a0≤268435456):nv a0=some (a0,()):=by
 have hl:aF fE (a0,List.replicate a0.length (ByteArray.empty,()),(0:Int),())=some (.inl (a0,())):=by
  have:=bI (round:=fE) (e:=.inl (a0,())) a0.length (fun k=>(a0,a0.take k++List.replicate (a0.length-k) (ByteArray.empty,()),((k:Nat):Int),())) (by
   simp only [fE,nu,aD,cond_false,List.take_length,Nat.sub_self,List.replicate_zero,List.append_nil]) (fun k hk=>by
   have hb:k<(a0.take k++List.replicate (a0.length-k) ((ByteArray.empty,()):ByteArray×Unit)).length:=by simp;omega
   simp only [fE,nu,az hk,aw,cond_true,aC,List.getElem?_eq_getElem hk,List.getElem?_eq_getElem hb,Option.bind_some,cX hb,aE (show k<4611686018427387904 by omega)];rw [←ui a0 _ hk])
  simpa using this
 unfold nv;simp only [decide_true,aw,cond_true,aC,aQ (show a0.length*16≤lim by unfold lim;omega),hl,cW]
theorem Jg (bk:Int) (aT:Int) (a8:Int) (a7:Int) (bt:Int) (bh:aJ) (h:Aa (bk,aT,a8,a7,bt,bh,())≤268435456):nw bk aT a8 a7 bt bh=some (bk,aT,a8,a7,bt,bh,()):=by
 have h:(List.length bh+wl jN bh)≤268435456:=h;unfold nw;simp only [Option.bind_some,Hy bh (by show (List.length bh+wl jN bh)≤268435456;omega)]
theorem Ta (bk:Int) (aT:Int) (a8:aJ) (a7:ah) (bt:aJ) (bh:fA) (jo:Int) (fq:Int) (jq:Int) (jr:Int) (dG:Int) (cP:Int) (lO:Int) (lP:Int) (lQ:Int) (fD:aJ) (h:ak (bk,aT,a8,a7,bt,bh,jo,fq,jq,jr,dG,cP,lO,lP,lQ,fD,())≤268435456):s5 bk aT a8 a7 bt bh jo fq jq jr dG cP lO lP lQ fD=some (bk,aT,a8,a7,bt,bh,jo,fq,jq,jr,dG,cP,lO,lP,lQ,fD,()):=by
 have h:(List.length a8+wl jN a8)+(List.length a7+wl bP a7)+(List.length bt+wl jN bt)+(List.length bh+wl FG bh)+(List.length fD+wl jN fD)≤268435456:=h;unfold s5;simp only [Option.bind_some,Mg aT a8 (by show (List.length a8+wl jN a8)≤268435456;omega),EI a7 (by show (List.length a7+wl bP a7)≤268435456;omega),Hy bt (by show (List.length bt+wl jN bt)≤268435456;omega),K5 bh (by show (List.length bh+wl FG bh)≤268435456;omega),Jg dG cP lO lP lQ fD (by show (List.length fD+wl jN fD)≤268435456;omega)]
theorem Q6 (a0:aa) (h:List.length a0+wl ak a0≤268435456):qI a0=some (a0,()):=by
 have hl:aF ir (a0,List.replicate a0.length ((0:Int),(0:Int),[],[],[],[],(0:Int),(0:Int),(0:Int),(0:Int),(0:Int),(0:Int),(0:Int),(0:Int),(0:Int),[],()),(0:Int),())=some (.inl (a0,())):=by
  have:=bI (round:=ir) (e:=.inl (a0,())) a0.length (fun k=>(a0,a0.take k++List.replicate (a0.length-k) ((0:Int),(0:Int),[],[],[],[],(0:Int),(0:Int),(0:Int),(0:Int),(0:Int),(0:Int),(0:Int),(0:Int),(0:Int),[],()),((k:Nat):Int),())) (by
   simp only [ir,p6,aD,cond_false,List.take_length,Nat.sub_self,List.replicate_zero,List.append_nil]) (fun k hk=>by
   have hb:k<(a0.take k++List.replicate (a0.length-k) (((0:Int),(0:Int),[],[],[],[],(0:Int),(0:Int),(0:Int),(0:Int),(0:Int),(0:Int),(0:Int),(0:Int),(0:Int),[],()):au)).length:=by simp;omega
   simp only [ir,p6,az hk,aw,cond_true,aC,List.getElem?_eq_getElem hk,List.getElem?_eq_getElem hb,Option.bind_some,cX hb,aE (show k<4611686018427387904 by omega),Ta ((a0[k]).1) ((a0[k]).2.1) ((a0[k]).2.2.1) ((a0[k]).2.2.2.1) ((a0[k]).2.2.2.2.1) ((a0[k]).q.1) ((a0[k]).q.2.1) ((a0[k]).q.2.2.1) ((a0[k]).q.2.2.2.1) ((a0[k]).q.2.2.2.2.1) ((a0[k]).q.q.1) ((a0[k]).q.q.2.1) ((a0[k]).q.q.2.2.1) ((a0[k]).q.q.2.2.2.1) ((a0[k]).q.q.2.2.2.2.1) ((a0[k]).q.q.q.1) (Nat.le_trans (mJ ak a0 _ (List.getElem_mem hk)) (by omega))];rw [←ui a0 _ hk])
  simpa using this
 unfold qI;simp only [decide_true,aw,cond_true,aC,aQ (show a0.length*208≤lim by unfold lim;omega),hl,cW]
theorem Zn (bk:Int) (aT:Bool) (a8:Int) (a7:Int) (bt:Int) (bh:Int) (jo:Int) (fq:aJ) (jq:Int) (jr:Int) (dG:Int) (cP:ByteArray) (h:aH (bk,aT,a8,a7,bt,bh,jo,fq,jq,jr,dG,cP,())≤268435456):u5 bk aT a8 a7 bt bh jo fq jq jr dG cP=some (bk,aT,a8,a7,bt,bh,jo,fq,jq,jr,dG,cP,()):=by
 have h:(List.length fq+wl jN fq)+ByteArray.size cP≤268435456:=h;unfold u5;simp only [Option.bind_some,Jg a8 a7 bt bh jo fq (by show (List.length fq+wl jN fq)≤268435456;omega),Mh jq jr dG cP (by show ByteArray.size cP≤268435456;omega)]
theorem Tb (a0:ae) (h:List.length a0+wl aH a0≤268435456):s6 a0=some (a0,()):=by
 have hl:aF ju (a0,List.replicate a0.length ((0:Int),false,(0:Int),(0:Int),(0:Int),(0:Int),(0:Int),[],(0:Int),(0:Int),(0:Int),ByteArray.empty,()),(0:Int),())=some (.inl (a0,())):=by
  have:=bI (round:=ju) (e:=.inl (a0,())) a0.length (fun k=>(a0,a0.take k++List.replicate (a0.length-k) ((0:Int),false,(0:Int),(0:Int),(0:Int),(0:Int),(0:Int),[],(0:Int),(0:Int),(0:Int),ByteArray.empty,()),((k:Nat):Int),())) (by
   simp only [ju,rR,aD,cond_false,List.take_length,Nat.sub_self,List.replicate_zero,List.append_nil]) (fun k hk=>by
   have hb:k<(a0.take k++List.replicate (a0.length-k) (((0:Int),false,(0:Int),(0:Int),(0:Int),(0:Int),(0:Int),[],(0:Int),(0:Int),(0:Int),ByteArray.empty,()):a6)).length:=by simp;omega
   simp only [ju,rR,az hk,aw,cond_true,aC,List.getElem?_eq_getElem hk,List.getElem?_eq_getElem hb,Option.bind_some,cX hb,aE (show k<4611686018427387904 by omega),Zn ((a0[k]).1) ((a0[k]).2.1) ((a0[k]).2.2.1) ((a0[k]).2.2.2.1) ((a0[k]).2.2.2.2.1) ((a0[k]).q.1) ((a0[k]).q.2.1) ((a0[k]).q.2.2.1) ((a0[k]).q.2.2.2.1) ((a0[k]).q.2.2.2.2.1) ((a0[k]).q.q.1) ((a0[k]).q.q.2.1) (Nat.le_trans (mJ aH a0 _ (List.getElem_mem hk)) (by omega))];rw [←ui a0 _ hk])
  simpa using this
 unfold s6;simp only [decide_true,aw,cond_true,aC,aQ (show a0.length*120≤lim by unfold lim;omega),hl,cW]
theorem Om (a0:ax) (h:List.length a0+wl bD a0≤268435456):oX a0=some (a0,()):=by
 have hl:aF gw (a0,List.replicate a0.length ([],()),(0:Int),())=some (.inl (a0,())):=by
  have:=bI (round:=gw) (e:=.inl (a0,())) a0.length (fun k=>(a0,a0.take k++List.replicate (a0.length-k) ([],()),((k:Nat):Int),())) (by
   simp only [gw,ou,aD,cond_false,List.take_length,Nat.sub_self,List.replicate_zero,List.append_nil]) (fun k hk=>by
   have hb:k<(a0.take k++List.replicate (a0.length-k) (([],()):ah×Unit)).length:=by simp;omega
   simp only [gw,ou,az hk,aw,cond_true,aC,List.getElem?_eq_getElem hk,List.getElem?_eq_getElem hb,Option.bind_some,cX hb,aE (show k<4611686018427387904 by omega),EI ((a0[k]).1) (Nat.le_trans (mJ bD a0 _ (List.getElem_mem hk)) (by omega))];rw [←ui a0 _ hk])
  simpa using this
 unfold oX;simp only [decide_true,aw,cond_true,aC,aQ (show a0.length*24≤lim by unfold lim;omega),hl,cW]
theorem Tc (bk:Int) (aT:aJ) (a8:aa) (a7:ae) (bt:ax) (bh:ah) (h:bp (bk,aT,a8,a7,bt,bh,())≤268435456):kW bk aT a8 a7 bt bh=some (bk,aT,a8,a7,bt,bh,()):=by
 have h:(List.length aT+wl jN aT)+(List.length a8+wl ak a8)+(List.length a7+wl aH a7)+(List.length bt+wl bD bt)+(List.length bh+wl bP bh)≤268435456:=h;unfold kW;simp only [Option.bind_some,Mg bk aT (by show (List.length aT+wl jN aT)≤268435456;omega),Q6 a8 (by show (List.length a8+wl ak a8)≤268435456;omega),Tb a7 (by show (List.length a7+wl aH a7)≤268435456;omega),Om bt (by show (List.length bt+wl bD bt)≤268435456;omega),EI bh (by show (List.length bh+wl bP bh)≤268435456;omega)]
theorem Hz (a0:aJ) (h:List.length a0+wl jN a0≤268435456):mX a0 a0=some (true,()):=by
 have hl:aF jF (a0,a0,(0:Int),())=some (.inl ()):=by
  have:=bI (round:=jF) (e:=.inl ()) a0.length (fun k=>(a0,a0,((k:Nat):Int),())) (by
   simp only [jF,sq,aD,cond_false]) (fun k hk=>by
   simp only [jF,sq,az hk,aw,cond_true,cond_false,aC,List.getElem?_eq_getElem hk,Option.bind_some,decide_true,beq_self_eq_true,cG,Bool.not_true,aE (show k<4611686018427387904 by omega)])
  simpa using this
 unfold mX;simp only [decide_true,Bool.not_true,cond_false,hl,cW]
theorem Mi (bk:Int) (aT:aJ) (h:K1 (bk,aT,())≤268435456):pK bk aT bk aT=some (true,()):=by
 have h:(List.length aT+wl jN aT)≤268435456:=h;unfold pK;simp only [decide_true,beq_self_eq_true,Bool.not_true,Bool.not_false,cond_true,cond_false,cG,Option.bind_some,Hz aT (by show (List.length aT+wl jN aT)≤268435456;omega)]
theorem Mj (bk:Int) (aT:Int) (a8:Int) (a7:ByteArray) (h:bP (bk,aT,a8,a7,())≤268435456):pL bk aT a8 a7 bk aT a8 a7=some (true,()):=by
 have h:ByteArray.size a7≤268435456:=h;unfold pL;simp only [decide_true,beq_self_eq_true,Bool.not_true,Bool.not_false,cond_true,cond_false,cG,Option.bind_some]
theorem EJ (a0:ah) (h:List.length a0+wl bP a0≤268435456):lI a0 a0=some (true,()):=by
 have hl:aF iB (a0,a0,(0:Int),())=some (.inl ()):=by
  have:=bI (round:=iB) (e:=.inl ()) a0.length (fun k=>(a0,a0,((k:Nat):Int),())) (by
   simp only [iB,qk,aD,cond_false]) (fun k hk=>by
   simp only [iB,qk,az hk,aw,cond_true,cond_false,aC,List.getElem?_eq_getElem hk,Option.bind_some,decide_true,beq_self_eq_true,cG,Bool.not_true,aE (show k<4611686018427387904 by omega),Mj ((a0[k]).1) ((a0[k]).2.1) ((a0[k]).2.2.1) ((a0[k]).2.2.2.1) (Nat.le_trans (mJ bP a0 _ (List.getElem_mem hk)) (by omega))])
  simpa using this
 unfold lI;simp only [decide_true,Bool.not_true,cond_false,hl,cW]
theorem K6 (a0:fA) (h:List.length a0+wl FG a0≤268435456):nM a0 a0=some (true,()):=by
 have hl:aF fF (a0,a0,(0:Int),())=some (.inl ()):=by
  have:=bI (round:=fF) (e:=.inl ()) a0.length (fun k=>(a0,a0,((k:Nat):Int),())) (by
   simp only [fF,nL,aD,cond_false]) (fun k hk=>by
   simp only [fF,nL,az hk,aw,cond_true,cond_false,aC,List.getElem?_eq_getElem hk,Option.bind_some,decide_true,beq_self_eq_true,cG,Bool.not_true,aE (show k<4611686018427387904 by omega)])
  simpa using this
 unfold nM;simp only [decide_true,Bool.not_true,cond_false,hl,cW]
theorem Jh (bk:Int) (aT:Int) (a8:Int) (a7:Int) (bt:Int) (bh:aJ) (h:Aa (bk,aT,a8,a7,bt,bh,())≤268435456):nN bk aT a8 a7 bt bh bk aT a8 a7 bt bh=some (true,()):=by
 have h:(List.length bh+wl jN bh)≤268435456:=h;unfold nN;simp only [decide_true,beq_self_eq_true,Bool.not_true,Bool.not_false,cond_true,cond_false,cG,Option.bind_some,Hz bh (by show (List.length bh+wl jN bh)≤268435456;omega)]
theorem Td (bk:Int) (aT:Int) (a8:aJ) (a7:ah) (bt:aJ) (bh:fA) (jo:Int) (fq:Int) (jq:Int) (jr:Int) (dG:Int) (cP:Int) (lO:Int) (lP:Int) (lQ:Int) (fD:aJ) (h:ak (bk,aT,a8,a7,bt,bh,jo,fq,jq,jr,dG,cP,lO,lP,lQ,fD,())≤268435456):s9 bk aT a8 a7 bt bh jo fq jq jr dG cP lO lP lQ fD bk aT a8 a7 bt bh jo fq jq jr dG cP lO lP lQ fD=some (true,()):=by
 have h:(List.length a8+wl jN a8)+(List.length a7+wl bP a7)+(List.length bt+wl jN bt)+(List.length bh+wl FG bh)+(List.length fD+wl jN fD)≤268435456:=h;unfold s9;simp only [decide_true,beq_self_eq_true,Bool.not_true,Bool.not_false,cond_true,cond_false,cG,Option.bind_some,Mi aT a8 (by show (List.length a8+wl jN a8)≤268435456;omega),EJ a7 (by show (List.length a7+wl bP a7)≤268435456;omega),Hz bt (by show (List.length bt+wl jN bt)≤268435456;omega),K6 bh (by show (List.length bh+wl FG bh)≤268435456;omega),Jh dG cP lO lP lQ fD (by show (List.length fD+wl jN fD)≤268435456;omega)]
theorem Q7 (a0:aa) (h:List.length a0+wl ak a0≤268435456):qU a0 a0=some (true,()):=by
 have hl:aF iC (a0,a0,(0:Int),())=some (.inl ()):=by
  have:=bI (round:=iC) (e:=.inl ()) a0.length (fun k=>(a0,a0,((k:Nat):Int),())) (by
   simp only [iC,ql,aD,cond_false]) (fun k hk=>by
   simp only [iC,ql,az hk,aw,cond_true,cond_false,aC,List.getElem?_eq_getElem hk,Option.bind_some,decide_true,beq_self_eq_true,cG,Bool.not_true,aE (show k<4611686018427387904 by omega),Td ((a0[k]).1) ((a0[k]).2.1) ((a0[k]).2.2.1) ((a0[k]).2.2.2.1) ((a0[k]).2.2.2.2.1) ((a0[k]).q.1) ((a0[k]).q.2.1) ((a0[k]).q.2.2.1) ((a0[k]).q.2.2.2.1) ((a0[k]).q.2.2.2.2.1) ((a0[k]).q.q.1) ((a0[k]).q.q.2.1) ((a0[k]).q.q.2.2.1) ((a0[k]).q.q.2.2.2.1) ((a0[k]).q.q.2.2.2.2.1) ((a0[k]).q.q.q.1) (Nat.le_trans (mJ ak a0 _ (List.getElem_mem hk)) (by omega))])
  simpa using this
 unfold qU;simp only [decide_true,Bool.not_true,cond_false,hl,cW]
theorem Zo (bk:Int) (aT:Bool) (a8:Int) (a7:Int) (bt:Int) (bh:Int) (jo:Int) (fq:aJ) (jq:Int) (jr:Int) (dG:Int) (cP:ByteArray) (h:aH (bk,aT,a8,a7,bt,bh,jo,fq,jq,jr,dG,cP,())≤268435456):v7 bk aT a8 a7 bt bh jo fq jq jr dG cP bk aT a8 a7 bt bh jo fq jq jr dG cP=some (true,()):=by
 have h:(List.length fq+wl jN fq)+ByteArray.size cP≤268435456:=h;unfold v7;simp only [decide_true,beq_self_eq_true,Bool.not_true,Bool.not_false,cond_true,cond_false,cG,Option.bind_some,Jh a8 a7 bt bh jo fq (by show (List.length fq+wl jN fq)≤268435456;omega),Mj jq jr dG cP (by show ByteArray.size cP≤268435456;omega)]
theorem Te (a0:ae) (h:List.length a0+wl aH a0≤268435456):tc a0 a0=some (true,()):=by
 have hl:aF jG (a0,a0,(0:Int),())=some (.inl ()):=by
  have:=bI (round:=jG) (e:=.inl ()) a0.length (fun k=>(a0,a0,((k:Nat):Int),())) (by
   simp only [jG,sr,aD,cond_false]) (fun k hk=>by
   simp only [jG,sr,az hk,aw,cond_true,cond_false,aC,List.getElem?_eq_getElem hk,Option.bind_some,decide_true,beq_self_eq_true,cG,Bool.not_true,aE (show k<4611686018427387904 by omega),Zo ((a0[k]).1) ((a0[k]).2.1) ((a0[k]).2.2.1) ((a0[k]).2.2.2.1) ((a0[k]).2.2.2.2.1) ((a0[k]).q.1) ((a0[k]).q.2.1) ((a0[k]).q.2.2.1) ((a0[k]).q.2.2.2.1) ((a0[k]).q.2.2.2.2.1) ((a0[k]).q.q.1) ((a0[k]).q.q.2.1) (Nat.le_trans (mJ aH a0 _ (List.getElem_mem hk)) (by omega))])
  simpa using this
 unfold tc;simp only [decide_true,Bool.not_true,cond_false,hl,cW]
theorem On (a0:ax) (h:List.length a0+wl bD a0≤268435456):pf a0 a0=some (true,()):=by
 have hl:aF gI (a0,a0,(0:Int),())=some (.inl ()):=by
  have:=bI (round:=gI) (e:=.inl ()) a0.length (fun k=>(a0,a0,((k:Nat):Int),())) (by
   simp only [gI,oI,aD,cond_false]) (fun k hk=>by
   simp only [gI,oI,az hk,aw,cond_true,cond_false,aC,List.getElem?_eq_getElem hk,Option.bind_some,decide_true,beq_self_eq_true,cG,Bool.not_true,aE (show k<4611686018427387904 by omega),EJ ((a0[k]).1) (Nat.le_trans (mJ bD a0 _ (List.getElem_mem hk)) (by omega))])
  simpa using this
 unfold pf;simp only [decide_true,Bool.not_true,cond_false,hl,cW]
theorem Mk (bk:Int) (aT:aJ) (a8:aa) (a7:ae) (bt:ax) (bh:ah) (h:bp (bk,aT,a8,a7,bt,bh,())≤268435456):ll bk aT a8 a7 bt bh bk aT a8 a7 bt bh=some (true,()):=by
 have h:(List.length aT+wl jN aT)+(List.length a8+wl ak a8)+(List.length a7+wl aH a7)+(List.length bt+wl bD bt)+(List.length bh+wl bP bh)≤268435456:=h;unfold ll;simp only [decide_true,beq_self_eq_true,Bool.not_true,Bool.not_false,cond_true,cond_false,cG,Option.bind_some,Mi bk aT (by show (List.length aT+wl jN aT)≤268435456;omega),Q7 a8 (by show (List.length a8+wl ak a8)≤268435456;omega),Te a7 (by show (List.length a7+wl aH a7)≤268435456;omega),On bt (by show (List.length bt+wl bD bt)≤268435456;omega),EJ bh (by show (List.length bh+wl bP bh)≤268435456;omega)]
end Go.TM
set_option linter.unusedSimpArgs false
set_option linter.unusedVariables false
namespace Go.TM
open Go
def Q8 (y:Int×Unit):UInt8:=UInt8.ofNat y.1.toNat
theorem HA (ys:List (Int×Unit)):(bytesOf ys).data.toList=ys.map Q8:=by
 have key:∀(ys:List (Int×Unit)) (s:ByteArray),(List.foldl (fun (r:ByteArray) (y:Int×Unit)=>r.push (UInt8.ofNat y.1.toNat)) s ys).data.toList=s.data.toList++ys.map Q8:=by
  intro ys
  induction ys with
  |nil=>intro s;simp
  |cons y ys ih=>
   intro s;rw [List.foldl_cons,ih];simp [Q8]
 have:=key ys ByteArray.empty;exact this
theorem HB (ys:List (Int×Unit)):(bytesOf ys).size=ys.length:=by
 have h1:(bytesOf ys).data.toList.length=(bytesOf ys).size:=Array.length_toList;rw [←h1,HA,List.length_map]
def Tf {B:Type}:Sum (ByteArray×Unit) B→Prop
 |.inl y=>y.1.size≤20
 |.inr _=>False
theorem xL (n:Nat) (h:n<1099511627776):∃b:ByteArray,dQ ((n:Nat):Int)=some (b,()):=by
 unfold dQ
 by_cases h0:((n:Nat):Int)≤0
 ·rw [aj h0];exact ⟨_,rfl⟩
 rw [aq h0];obtain ⟨e,he,hq⟩:=cL (round:=gJ) (x:=(((n:Nat):Int),(ByteArray.mk #[]),())) 20 (fun k x=>∃(m:Nat) (out:ByteArray),x=(((m:Nat):Int),out,())∧m≤n∧m<10 ^ (20-k)∧out.size=k)
  Tf (by
  rintro x ⟨m,out,rfl,hn,hm,hl⟩
  have hm:m<1:=hm;refine ⟨.inl (out,()),?_,by show out.size≤20;omega⟩;simp only [gJ,lJ,aq (show ¬(0:Int)<((m:Nat):Int) by omega),cond_false]) (by
  rintro k x hk ⟨m,out,rfl,hn,hm,hl⟩
  by_cases h1:0<m
  ·have hd:Int.tdiv ((m:Nat):Int) (10:Int)=((m / 10:Nat):Int):=rfl;have hbz:ByteArray.size (bytesOf [(IntKind.u8.wrap (IntKind.i64.wrap ((48:Int)+(Int.tmod ((m:Nat):Int) (10:Int)))),())])=1:=HB _;refine .inr ⟨(((m / 10:Nat):Int),bytesOf [(IntKind.u8.wrap (IntKind.i64.wrap ((48:Int)+(Int.tmod ((m:Nat):Int) (10:Int)))),())]++out,()),?_,m / 10,bytesOf [(IntKind.u8.wrap (IntKind.i64.wrap ((48:Int)+(Int.tmod ((m:Nat):Int) (10:Int)))),())]++out,rfl,by omega,?_,?_⟩
   ·simp only [gJ,lJ,aj (show (0:Int)<((m:Nat):Int) by omega),cond_true,hd,dk (show -9223372036854775808≤((m / 10:Nat):Int) by omega) (show ((m / 10:Nat):Int)<9223372036854775808 by omega),hbz,
     aQ (show 1+out.size≤lim by unfold lim;omega)]
   ·have e1:20-k=(20-(k+1))+1:=by omega
    rw [e1,Nat.pow_succ] at hm;omega
   ·rw [ByteArray.size_append,hbz];omega
  ·refine .inl ⟨.inl (out,()),?_,by show out.size≤20;omega⟩;simp only [gJ,lJ,aq (show ¬(0:Int)<((m:Nat):Int) by omega),cond_false]) ⟨n,_,rfl,Nat.le_refl _,by show n<100000000000000000000;omega,rfl⟩
 rw [he]
 cases e with
 |inr e=>exact hq.elim
 |inl e=>
  have hq:e.1.size≤20:=hq;simp only [cond_false,cW,aQ (show 1+ByteArray.size e.1≤lim by unfold lim;omega),cond_true];exact ⟨_,rfl⟩
noncomputable def v8 (n:Nat):ByteArray:=if h:n<1099511627776 then Classical.choose (xL n h) else ByteArray.empty
theorem uw {n:Nat} (h:n<1099511627776):dQ ((n:Nat):Int)=some (v8 n,()):=by
 unfold v8;rw [dif_pos h];exact Classical.choose_spec (xL n h)
end Go.TM
set_option linter.unusedSimpArgs false
set_option linter.unusedVariables false
namespace Go.TM
open Go
theorem HC (k:Nat):decide (((k:Nat):Int)<(0:Int))=false:=aq (by omega)
theorem cq {k:Nat} (h:k≤549755813888):IntKind.i64.wrap (((k:Nat):Int)+(1:Int))=(((k+1:Nat)):Int):=aE (by omega)
theorem Ji {k:Nat} (h:k≤549755813888):dQ ((k:Nat):Int)=some (v8 k,()):=uw (by omega)
theorem Be {α:Type} (f g:α→Nat) (c:Nat) (h:∀x,f x≤c*(1+g x)):(xs:List α)→wl f xs≤c*(xs.length+wl g xs)
 | []=>Nat.zero_le _
 |x::xs=>by
  have h1:=h x;have h2:=Be f g c h xs;rw [sU,sU,List.length_cons];have e:c*(xs.length+1+(g x+wl g xs))=c*(1+g x)+c*(xs.length+wl g xs):=by rw [←Nat.mul_add];congr 1;omega
  omega
theorem EK {α:Type} (f:α→Nat) (xs:List α) {k:Nat} (hk:k<xs.length):wl f (xs.take k)+f xs[k]≤wl f xs:=by
 have h1:=sV f xs hk;have h2:wl f xs=wl f (xs.take (k+1))+wl f (xs.drop (k+1)):=by rw [←Ek,List.take_append_drop]
 omega
theorem Ce {α B:Type} (M:α→Nat) (HD:α→Nat→α→Prop) (round:List α×Int×Int×Unit→Option (Sum (List α×Int×Int×Unit) (Sum (List α×Int×Unit) B))) (xs:List α) (a:Nat)
  (Ho:∀(l:List α) (m:Int),l.length=xs.length→round (l,m,((xs.length:Nat):Int),())=some (.inr (.inl (l,m,()))))
  (wm:∀(l:List α) (k:Nat) (hk:k<xs.length) (n:Nat),l.length=xs.length→l[k]?=some xs[k]→n+M xs[k]≤a+wl M xs→∃y,HD xs[k] n y∧round (l,((n:Nat):Int),((k:Nat):Int),())=some (.inl (l.set k y,((n+M xs[k]:Nat):Int),((k+1:Nat):Int),()))) :
  ∃l,aF round (xs,((a:Nat):Int),(0:Int),())=some (.inl (l,((a+wl M xs:Nat):Int),()))∧l.length=xs.length∧∀j (hj:j<xs.length),∃y,l[j]?=some y∧HD xs[j] (a+wl M (xs.take j)) y:=by
 obtain ⟨e,he,l,rfl,hl,hj⟩:=cL (round:=round) (x:=(xs,((a:Nat):Int),((0:Nat):Int),())) xs.length
  (fun k x=>∃l:List α,x=(l,((a+wl M (xs.take k):Nat):Int),((k:Nat):Int),())∧l.length=xs.length∧(∀j (hj:j<xs.length),j<k→∃y,l[j]?=some y∧HD xs[j] (a+wl M (xs.take j)) y)∧∀j (hj:j<xs.length),k≤j→l[j]?=some xs[j])
  (fun e=>∃l:List α,e=.inl (l,((a+wl M xs:Nat):Int),())∧l.length=xs.length∧∀j (hj:j<xs.length),∃y,l[j]?=some y∧HD xs[j] (a+wl M (xs.take j)) y) (by
  rintro x ⟨l,rfl,hl,hj,_⟩
  rw [List.take_length];exact ⟨_,Ho l _ hl,l,rfl,hl,fun j Zp=>hj j Zp Zp⟩) (by
  rintro k x hk ⟨l,rfl,hl,h1,h2⟩
  have hb:=EK M xs hk;obtain ⟨y,hy,hr⟩:=wm l k hk (a+wl M (xs.take k)) hl (h2 k hk (Nat.le_refl _)) (by omega);refine .inr ⟨_,hr,l.set k y,by rw [Nat.add_assoc,←sV M xs hk],by simp [hl],fun j hj Bs => ?_,fun j hj Bs => ?_⟩
  ·by_cases e:k=j
   ·subst e;exact ⟨y,by rw [List.getElem?_set_self (by omega)],hy⟩
   ·rw [List.getElem?_set_ne e];exact h1 j hj (by omega)
  ·rw [List.getElem?_set_ne (by omega)];exact h2 j hj (by omega)) ⟨xs,by rw [List.take_zero];rfl,rfl,fun j _ h=>by omega,fun j hj _=>List.getElem?_eq_getElem hj⟩
 exact ⟨l,he,hl,hj⟩
theorem Cf {α B:Type} (M:α→Nat) (HD:α→Nat→α→Prop) (round:List α×Int×Int×Unit→Option (Sum (List α×Int×Int×Unit) (Sum (Int×Unit) B))) (xs l:List α) (a:Nat) (hl:l.length=xs.length)
  (hy:∀j (hj:j<xs.length),∃y,l[j]?=some y∧HD xs[j] (a+wl M (xs.take j)) y)
  (Ho:∀m:Int,round (l,m,((xs.length:Nat):Int),())=some (.inr (.inl (m,()))))
  (wm:∀(k:Nat) (hk:k<xs.length) (n:Nat) (y:α),k<l.length→l[k]?=some y→HD xs[k] n y→n+M xs[k]≤a+wl M xs→round (l,((n:Nat):Int),((k:Nat):Int),())=some (.inl (l,((n+M xs[k]:Nat):Int),((k+1:Nat):Int),()))) :
  aF round (l,((a:Nat):Int),(0:Int),())=some (.inl (((a+wl M xs:Nat):Int),())):=by
 have h:=bI (round:=round) (e:=.inl (((a+wl M xs:Nat):Int),())) xs.length (fun k=>(l,((a+wl M (xs.take k):Nat):Int),((k:Nat):Int),())) (by
  rw [List.take_length];exact Ho _) (fun k hk=>by
  have hb:=EK M xs hk;obtain ⟨y,h1,h2⟩:=hy k hk;have:=wm k hk _ y (by omega) h1 h2 (by omega);rw [this,Nat.add_assoc,←sV M xs hk])
 have h:aF round (l,((a+wl M (xs.take 0):Nat):Int),(0:Int),())=_:=h
 rwa [List.take_zero] at h
end Go.TM
set_option linter.unusedSimpArgs false
set_option linter.unusedVariables false
namespace Go.TM
open Go
noncomputable def EL (n:Nat):Int×Unit:=(((n+0:Nat):Int),())
def K7 (n a:Nat) {B:Type}:Sum ((aJ)×Int×Unit) B→Prop
 |.inl y=>y.2.1=((a+1*n:Nat):Int)∧y.1.length=n∧∀j,j<n→y.1[j]?=some (EL (a+1*j))
 |.inr _=>False
theorem Bf (xs:aJ) (a:Nat) (h:List.length xs≤268435456) (ha:a≤549755813888):∃l,gp xs ((a:Nat):Int)=some (((a+1*List.length xs:Nat):Int),l,())∧dx l ((a:Nat):Int)=some (((a+1*List.length xs:Nat):Int),())∧List.length l=List.length xs:=by
 obtain ⟨e,he,hq⟩:=cL (round:=jH) (x:=(xs,((a:Nat):Int),((0:Nat):Int),())) xs.length (fun k x=>∃l:aJ,x=(l,((a+1*k:Nat):Int),((k:Nat):Int),())∧l.length=xs.length∧∀j,j<k→l[j]?=some (EL (a+1*j)))
  (K7 xs.length a) (by
  rintro x ⟨l,rfl,hl,hj⟩
  refine ⟨.inl (l,((a+1*xs.length:Nat):Int),()),?_,rfl,hl,hj⟩;simp only [jH,oJ,hl,aD,cond_false]) (by
  rintro k x hk ⟨l,rfl,hl,hj⟩
  have Dc:k<l.length:=by omega
  refine .inr ⟨_,?_,l.set k (EL (a+1*k)),rfl,by simp [hl],fun j Zp => ?_⟩
  ·have e0:((a+1*k:Nat):Int)=((a+1*k+0:Nat):Int):=rfl;have e1:IntKind.i64.wrap (((a+1*k+0:Nat):Int)+(1:Int))=((a+1*k+1:Nat):Int):=by rw [dk]<;>omega
   have ez:((a+1*k+1:Nat):Int)=((a+1*(k+1):Nat):Int):=by omega
   rw [e0];simp only [jH,oJ,az Dc,aw,cond_true,aC,List.length_set,cX Dc,List.getElem?_eq_getElem Dc,List.getElem?_set_self Dc,List.set_set,Option.bind_some,e1,ez,aE (show k<4611686018427387904 by omega)];rfl
  ·rw [List.getElem?_set]
   by_cases Bs:k=j
   ·subst Bs;rw [if_pos rfl,if_pos Dc]
   ·rw [if_neg Bs];exact hj j (by omega)) ⟨xs,rfl,rfl,fun j hj=>by omega⟩
 cases e with
 |inr e=>exact hq.elim
 |inl e=>
  obtain ⟨q1,q2,q3⟩:=hq;obtain ⟨l,m,u⟩:=e;simp only at q1 q2 q3;subst q1;refine ⟨l,?_,?_,q2⟩
  ·unfold gp;rw [show (0:Int)=((0:Nat):Int) from rfl,he];rfl
  ·have hl:=bI (round:=gL) (e:=.inl (((a+1*xs.length:Nat):Int),())) xs.length (fun k=>(l,((a+1*k:Nat):Int),((k:Nat):Int),())) (by
    simp only [gL,oL,q2,aD,cond_false]) (fun k hk=>by
    have Dc:k<l.length:=by omega
    have RA:l[k]?=some (((a+1*k+0:Nat):Int),()):=q3 k hk;have e0:((a+1*k:Nat):Int)=((a+1*k+0:Nat):Int):=rfl;have e1:IntKind.i64.wrap (((a+1*k+0:Nat):Int)+(1:Int))=((a+1*k+1:Nat):Int):=by rw [dk]<;>omega
    have ez:((a+1*k+1:Nat):Int)=((a+1*(k+1):Nat):Int):=by omega
    rw [e0];simp only [gL,oL,az Dc,aw,cond_true,cond_false,aC,RA,decide_true,cG,Bool.not_true,Option.bind_some,e1,ez,aE (show k<4611686018427387904 by omega)])
   unfold dx;have hl:aF gL (l,((a+1*0:Nat):Int),(0:Int),())=_:=hl;rw [Nat.mul_zero,Nat.add_zero] at hl;rw [hl];rfl
theorem Tg (bk:Int) (aT:aJ) (a:Nat) (h1:List.length aT≤268435456) (ha:a≤274877906944):∃l1,pg bk aT ((a:Nat):Int)=some (((a+1*List.length aT:Nat):Int),l1,())∧pj bk l1 ((a:Nat):Int)=some (((a+1*List.length aT:Nat):Int),())∧List.length l1=List.length aT:=by
 obtain ⟨l1,e0,g0,nl1⟩:=Bf aT (a) h1 (by omega);refine ⟨l1,?_,?_,nl1⟩
 ·simp only [pg,e0,Option.bind_some]<;>rfl
 ·simp only [pj,g0,Option.bind_some,cond_false,aq (show ¬((a+1*List.length aT:Nat):Int)<0 by omega)]
noncomputable def Cg (n:Nat):lS:=(((n+0:Nat):Int),((n+1:Nat):Int),((n+2:Nat):Int),v8 (n+3),())
def Jj (n a:Nat) {B:Type}:Sum ((ah)×Int×Unit) B→Prop
 |.inl y=>y.2.1=((a+4*n:Nat):Int)∧y.1.length=n∧∀j,j<n→y.1[j]?=some (Cg (a+4*j))
 |.inr _=>False
theorem EM (xs:ah) (a:Nat) (h:List.length xs≤268435456) (ha:a≤549755813888):∃l,jI xs ((a:Nat):Int)=some (((a+4*List.length xs:Nat):Int),l,())∧fy l ((a:Nat):Int)=some (((a+4*List.length xs:Nat):Int),())∧List.length l=List.length xs:=by
 obtain ⟨e,he,hq⟩:=cL (round:=iL) (x:=(xs,((a:Nat):Int),((0:Nat):Int),())) xs.length (fun k x=>∃l:ah,x=(l,((a+4*k:Nat):Int),((k:Nat):Int),())∧l.length=xs.length∧∀j,j<k→l[j]?=some (Cg (a+4*j)))
  (Jj xs.length a) (by
  rintro x ⟨l,rfl,hl,hj⟩
  refine ⟨.inl (l,((a+4*xs.length:Nat):Int),()),?_,rfl,hl,hj⟩;simp only [iL,nO,hl,aD,cond_false]) (by
  rintro k x hk ⟨l,rfl,hl,hj⟩
  have Dc:k<l.length:=by omega
  refine .inr ⟨_,?_,l.set k (Cg (a+4*k)),rfl,by simp [hl],fun j Zp => ?_⟩
  ·have e0:((a+4*k:Nat):Int)=((a+4*k+0:Nat):Int):=rfl;have e1:IntKind.i64.wrap (((a+4*k+0:Nat):Int)+(1:Int))=((a+4*k+1:Nat):Int):=by rw [dk]<;>omega
   have e2:IntKind.i64.wrap (((a+4*k+1:Nat):Int)+(1:Int))=((a+4*k+2:Nat):Int):=by rw [dk]<;>omega
   have e3:IntKind.i64.wrap (((a+4*k+2:Nat):Int)+(1:Int))=((a+4*k+3:Nat):Int):=by rw [dk]<;>omega
   have e4:IntKind.i64.wrap (((a+4*k+3:Nat):Int)+(1:Int))=((a+4*k+4:Nat):Int):=by rw [dk]<;>omega
   have ez:((a+4*k+4:Nat):Int)=((a+4*(k+1):Nat):Int):=by omega
   rw [e0];simp only [iL,nO,az Dc,aw,cond_true,aC,List.length_set,cX Dc,List.getElem?_eq_getElem Dc,List.getElem?_set_self Dc,List.set_set,Option.bind_some,uw (show a+4*k+3<1099511627776 by omega),e1,e2,e3,e4,ez,aE (show k<4611686018427387904 by omega)];rfl
  ·rw [List.getElem?_set]
   by_cases Bs:k=j
   ·subst Bs;rw [if_pos rfl,if_pos Dc]
   ·rw [if_neg Bs];exact hj j (by omega)) ⟨xs,rfl,rfl,fun j hj=>by omega⟩
 cases e with
 |inr e=>exact hq.elim
 |inl e=>
  obtain ⟨q1,q2,q3⟩:=hq;obtain ⟨l,m,u⟩:=e;simp only at q1 q2 q3;subst q1;refine ⟨l,?_,?_,q2⟩
  ·unfold jI;rw [show (0:Int)=((0:Nat):Int) from rfl,he];rfl
  ·have hl:=bI (round:=fH) (e:=.inl (((a+4*xs.length:Nat):Int),())) xs.length (fun k=>(l,((a+4*k:Nat):Int),((k:Nat):Int),())) (by
    simp only [fH,nR,q2,aD,cond_false]) (fun k hk=>by
    have Dc:k<l.length:=by omega
    have RA:l[k]?=some (((a+4*k+0:Nat):Int),((a+4*k+1:Nat):Int),((a+4*k+2:Nat):Int),v8 (a+4*k+3),()):=q3 k hk;have e0:((a+4*k:Nat):Int)=((a+4*k+0:Nat):Int):=rfl;have e1:IntKind.i64.wrap (((a+4*k+0:Nat):Int)+(1:Int))=((a+4*k+1:Nat):Int):=by rw [dk]<;>omega
    have e2:IntKind.i64.wrap (((a+4*k+1:Nat):Int)+(1:Int))=((a+4*k+2:Nat):Int):=by rw [dk]<;>omega
    have e3:IntKind.i64.wrap (((a+4*k+2:Nat):Int)+(1:Int))=((a+4*k+3:Nat):Int):=by rw [dk]<;>omega
    have e4:IntKind.i64.wrap (((a+4*k+3:Nat):Int)+(1:Int))=((a+4*k+4:Nat):Int):=by rw [dk]<;>omega
    have ez:((a+4*k+4:Nat):Int)=((a+4*(k+1):Nat):Int):=by omega
    rw [e0];simp only [fH,nR,az Dc,aw,cond_true,cond_false,aC,RA,decide_true,cG,Bool.not_true,Option.bind_some,uw (show a+4*k+3<1099511627776 by omega),e1,e2,e3,e4,ez,aE (show k<4611686018427387904 by omega)])
   unfold fy;have hl:aF fH (l,((a+4*0:Nat):Int),(0:Int),())=_:=hl;rw [Nat.mul_zero,Nat.add_zero] at hl;rw [hl];rfl
noncomputable def xM (n:Nat):ByteArray×Unit:=(v8 (n+0),())
def FH (n a:Nat) {B:Type}:Sum ((fA)×Int×Unit) B→Prop
 |.inl y=>y.2.1=((a+1*n:Nat):Int)∧y.1.length=n∧∀j,j<n→y.1[j]?=some (xM (a+1*j))
 |.inr _=>False
theorem K8 (xs:fA) (a:Nat) (h:List.length xs≤268435456) (ha:a≤549755813888):∃l,lK xs ((a:Nat):Int)=some (((a+1*List.length xs:Nat):Int),l,())∧jJ l ((a:Nat):Int)=some (((a+1*List.length xs:Nat):Int),())∧List.length l=List.length xs:=by
 obtain ⟨e,he,hq⟩:=cL (round:=fW) (x:=(xs,((a:Nat):Int),((0:Nat):Int),())) xs.length (fun k x=>∃l:fA,x=(l,((a+1*k:Nat):Int),((k:Nat):Int),())∧l.length=xs.length∧∀j,j<k→l[j]?=some (xM (a+1*j)))
  (FH xs.length a) (by
  rintro x ⟨l,rfl,hl,hj⟩
  refine ⟨.inl (l,((a+1*xs.length:Nat):Int),()),?_,rfl,hl,hj⟩;simp only [fW,lU,hl,aD,cond_false]) (by
  rintro k x hk ⟨l,rfl,hl,hj⟩
  have Dc:k<l.length:=by omega
  refine .inr ⟨_,?_,l.set k (xM (a+1*k)),rfl,by simp [hl],fun j Zp => ?_⟩
  ·have e0:((a+1*k:Nat):Int)=((a+1*k+0:Nat):Int):=rfl;have e1:IntKind.i64.wrap (((a+1*k+0:Nat):Int)+(1:Int))=((a+1*k+1:Nat):Int):=by rw [dk]<;>omega
   have ez:((a+1*k+1:Nat):Int)=((a+1*(k+1):Nat):Int):=by omega
   rw [e0];simp only [fW,lU,az Dc,aw,cond_true,aC,List.length_set,cX Dc,List.getElem?_eq_getElem Dc,List.getElem?_set_self Dc,List.set_set,Option.bind_some,uw (show a+1*k+0<1099511627776 by omega),e1,ez,aE (show k<4611686018427387904 by omega)];rfl
  ·rw [List.getElem?_set]
   by_cases Bs:k=j
   ·subst Bs;rw [if_pos rfl,if_pos Dc]
   ·rw [if_neg Bs];exact hj j (by omega)) ⟨xs,rfl,rfl,fun j hj=>by omega⟩
 cases e with
 |inr e=>exact hq.elim
 |inl e=>
  obtain ⟨q1,q2,q3⟩:=hq;obtain ⟨l,m,u⟩:=e;simp only at q1 q2 q3;subst q1;refine ⟨l,?_,?_,q2⟩
  ·unfold lK;rw [show (0:Int)=((0:Nat):Int) from rfl,he];rfl
  ·have hl:=bI (round:=eD) (e:=.inl (((a+1*xs.length:Nat):Int),())) xs.length (fun k=>(l,((a+1*k:Nat):Int),((k:Nat):Int),())) (by
    simp only [eD,lV,q2,aD,cond_false]) (fun k hk=>by
    have Dc:k<l.length:=by omega
    have RA:l[k]?=some (v8 (a+1*k+0),()):=q3 k hk;have e0:((a+1*k:Nat):Int)=((a+1*k+0:Nat):Int):=rfl;have e1:IntKind.i64.wrap (((a+1*k+0:Nat):Int)+(1:Int))=((a+1*k+1:Nat):Int):=by rw [dk]<;>omega
    have ez:((a+1*k+1:Nat):Int)=((a+1*(k+1):Nat):Int):=by omega
    rw [e0];simp only [eD,lV,az Dc,aw,cond_true,cond_false,aC,RA,decide_true,cG,Bool.not_true,Option.bind_some,uw (show a+1*k+0<1099511627776 by omega),e1,ez,aE (show k<4611686018427387904 by omega)])
   unfold jJ;have hl:aF eD (l,((a+1*0:Nat):Int),(0:Int),())=_:=hl;rw [Nat.mul_zero,Nat.add_zero] at hl;rw [hl];rfl
def ar (x:au):Nat:=1+1+1*List.length x.2.2.1+4*List.length x.2.2.2.1+1*List.length x.2.2.2.2.1+1*List.length x.q.1+1+1+1+1+1+1+1+1+1+1*List.length x.q.q.q.1
theorem nV (x:au):ar x≤11*(1+ak x):=by
 unfold ar ak;omega
theorem m7 (xs:List (au)):wl ar xs≤11*(List.length xs+wl ak xs):=Be _ _ 11 nV xs
def Bg (x:au) (n:Nat) (y:au):Prop:=y.1=((n:Nat):Int)∧y.2.1=((n+1:Nat):Int)∧dx y.2.2.1 ((n+1+1:Nat):Int)=some (((n+1+1+1*List.length x.2.2.1:Nat):Int),())∧fy y.2.2.2.1 ((n+1+1+1*List.length x.2.2.1:Nat):Int)=some (((n+1+1+1*List.length x.2.2.1+4*List.length x.2.2.2.1:Nat):Int),())∧dx y.2.2.2.2.1 ((n+1+1+1*List.length x.2.2.1+4*List.length x.2.2.2.1:Nat):Int)=some (((n+1+1+1*List.length x.2.2.1+4*List.length x.2.2.2.1+1*List.length x.2.2.2.2.1:Nat):Int),())∧jJ y.q.1 ((n+1+1+1*List.length x.2.2.1+4*List.length x.2.2.2.1+1*List.length x.2.2.2.2.1:Nat):Int)=some (((n+1+1+1*List.length x.2.2.1+4*List.length x.2.2.2.1+1*List.length x.2.2.2.2.1+1*List.length x.q.1:Nat):Int),())∧y.q.2.1=((n+1+1+1*List.length x.2.2.1+4*List.length x.2.2.2.1+1*List.length x.2.2.2.2.1+1*List.length x.q.1:Nat):Int)∧y.q.2.2.1=((n+1+1+1*List.length x.2.2.1+4*List.length x.2.2.2.1+1*List.length x.2.2.2.2.1+1*List.length x.q.1+1:Nat):Int)∧y.q.2.2.2.1=((n+1+1+1*List.length x.2.2.1+4*List.length x.2.2.2.1+1*List.length x.2.2.2.2.1+1*List.length x.q.1+1+1:Nat):Int)∧y.q.2.2.2.2.1=((n+1+1+1*List.length x.2.2.1+4*List.length x.2.2.2.1+1*List.length x.2.2.2.2.1+1*List.length x.q.1+1+1+1:Nat):Int)∧y.q.q.1=((n+1+1+1*List.length x.2.2.1+4*List.length x.2.2.2.1+1*List.length x.2.2.2.2.1+1*List.length x.q.1+1+1+1+1:Nat):Int)∧y.q.q.2.1=((n+1+1+1*List.length x.2.2.1+4*List.length x.2.2.2.1+1*List.length x.2.2.2.2.1+1*List.length x.q.1+1+1+1+1+1:Nat):Int)∧y.q.q.2.2.1=((n+1+1+1*List.length x.2.2.1+4*List.length x.2.2.2.1+1*List.length x.2.2.2.2.1+1*List.length x.q.1+1+1+1+1+1+1:Nat):Int)∧y.q.q.2.2.2.1=((n+1+1+1*List.length x.2.2.1+4*List.length x.2.2.2.1+1*List.length x.2.2.2.2.1+1*List.length x.q.1+1+1+1+1+1+1+1:Nat):Int)∧y.q.q.2.2.2.2.1=((n+1+1+1*List.length x.2.2.1+4*List.length x.2.2.2.1+1*List.length x.2.2.2.2.1+1*List.length x.q.1+1+1+1+1+1+1+1+1:Nat):Int)∧dx y.q.q.q.1 ((n+1+1+1*List.length x.2.2.1+4*List.length x.2.2.2.1+1*List.length x.2.2.2.2.1+1*List.length x.q.1+1+1+1+1+1+1+1+1+1:Nat):Int)=some (((n+1+1+1*List.length x.2.2.1+4*List.length x.2.2.2.1+1*List.length x.2.2.2.2.1+1*List.length x.q.1+1+1+1+1+1+1+1+1+1+1*List.length x.q.q.q.1:Nat):Int),())
set_option maxHeartbeats 4000000 in
theorem Q9 (l:List (au)) (k:Nat) (z:au) (n:Nat) (hk:k<l.length) (Ra:k<4611686018427387904) (hz:l[k]?=some z) (hw:ak z≤268435456) (hn:n+ar z≤277830696960):∃y,Bg z n y∧fG (l,((n:Nat):Int),((k:Nat):Int),())=some (.inl (l.set k y,((n+ar z:Nat):Int),((k+1:Nat):Int),())):=by
 have hm:n+1+1+1*List.length z.2.2.1+4*List.length z.2.2.2.1+1*List.length z.2.2.2.2.1+1*List.length z.q.1+1+1+1+1+1+1+1+1+1+1*List.length z.q.q.q.1=n+ar z:=by unfold ar;omega
 have b0:n≤549755813888:=by omega
 have b1:n+1≤549755813888:=by omega
 have b2:n+1+1≤549755813888:=by omega
 have b3:n+1+1+1*List.length z.2.2.1≤549755813888:=by omega
 have b4:n+1+1+1*List.length z.2.2.1+4*List.length z.2.2.2.1≤549755813888:=by omega
 have b5:n+1+1+1*List.length z.2.2.1+4*List.length z.2.2.2.1+1*List.length z.2.2.2.2.1≤549755813888:=by omega
 have b6:n+1+1+1*List.length z.2.2.1+4*List.length z.2.2.2.1+1*List.length z.2.2.2.2.1+1*List.length z.q.1≤549755813888:=by omega
 have b7:n+1+1+1*List.length z.2.2.1+4*List.length z.2.2.2.1+1*List.length z.2.2.2.2.1+1*List.length z.q.1+1≤549755813888:=by omega
 have b8:n+1+1+1*List.length z.2.2.1+4*List.length z.2.2.2.1+1*List.length z.2.2.2.2.1+1*List.length z.q.1+1+1≤549755813888:=by omega
 have b9:n+1+1+1*List.length z.2.2.1+4*List.length z.2.2.2.1+1*List.length z.2.2.2.2.1+1*List.length z.q.1+1+1+1≤549755813888:=by omega
 have Zq:n+1+1+1*List.length z.2.2.1+4*List.length z.2.2.2.1+1*List.length z.2.2.2.2.1+1*List.length z.q.1+1+1+1+1≤549755813888:=by omega
 have Th:n+1+1+1*List.length z.2.2.1+4*List.length z.2.2.2.1+1*List.length z.2.2.2.2.1+1*List.length z.q.1+1+1+1+1+1≤549755813888:=by omega
 have b12:n+1+1+1*List.length z.2.2.1+4*List.length z.2.2.2.1+1*List.length z.2.2.2.2.1+1*List.length z.q.1+1+1+1+1+1+1≤549755813888:=by omega
 have b13:n+1+1+1*List.length z.2.2.1+4*List.length z.2.2.2.1+1*List.length z.2.2.2.2.1+1*List.length z.q.1+1+1+1+1+1+1+1≤549755813888:=by omega
 have b14:n+1+1+1*List.length z.2.2.1+4*List.length z.2.2.2.1+1*List.length z.2.2.2.2.1+1*List.length z.q.1+1+1+1+1+1+1+1+1≤549755813888:=by omega
 have b15:n+1+1+1*List.length z.2.2.1+4*List.length z.2.2.2.1+1*List.length z.2.2.2.2.1+1*List.length z.q.1+1+1+1+1+1+1+1+1+1≤549755813888:=by omega
 have hw0:ak z=(List.length z.2.2.1+wl jN z.2.2.1)+(List.length z.2.2.2.1+wl bP z.2.2.2.1)+(List.length z.2.2.2.2.1+wl jN z.2.2.2.2.1)+(List.length z.q.1+wl FG z.q.1)+(List.length z.q.q.q.1+wl jN z.q.q.q.1):=rfl;obtain ⟨l2,e2,g2,_⟩:=Bf z.2.2.1 (n+1+1) (by omega) (by omega);obtain ⟨l3,e3,g3,_⟩:=EM z.2.2.2.1 (n+1+1+1*List.length z.2.2.1) (by omega) (by omega);obtain ⟨l4,e4,g4,_⟩:=Bf z.2.2.2.2.1 (n+1+1+1*List.length z.2.2.1+4*List.length z.2.2.2.1) (by omega) (by omega);obtain ⟨l5,e5,g5,_⟩:=K8 z.q.1 (n+1+1+1*List.length z.2.2.1+4*List.length z.2.2.2.1+1*List.length z.2.2.2.2.1) (by omega) (by omega);obtain ⟨l15,e15,g15,_⟩:=Bf z.q.q.q.1 (n+1+1+1*List.length z.2.2.1+4*List.length z.2.2.2.1+1*List.length z.2.2.2.2.1+1*List.length z.q.1+1+1+1+1+1+1+1+1+1) (by omega) (by omega);refine ⟨(((n:Nat):Int),((n+1:Nat):Int),l2,l3,l4,l5,((n+1+1+1*List.length z.2.2.1+4*List.length z.2.2.2.1+1*List.length z.2.2.2.2.1+1*List.length z.q.1:Nat):Int),((n+1+1+1*List.length z.2.2.1+4*List.length z.2.2.2.1+1*List.length z.2.2.2.2.1+1*List.length z.q.1+1:Nat):Int),((n+1+1+1*List.length z.2.2.1+4*List.length z.2.2.2.1+1*List.length z.2.2.2.2.1+1*List.length z.q.1+1+1:Nat):Int),((n+1+1+1*List.length z.2.2.1+4*List.length z.2.2.2.1+1*List.length z.2.2.2.2.1+1*List.length z.q.1+1+1+1:Nat):Int),((n+1+1+1*List.length z.2.2.1+4*List.length z.2.2.2.1+1*List.length z.2.2.2.2.1+1*List.length z.q.1+1+1+1+1:Nat):Int),((n+1+1+1*List.length z.2.2.1+4*List.length z.2.2.2.1+1*List.length z.2.2.2.2.1+1*List.length z.q.1+1+1+1+1+1:Nat):Int),((n+1+1+1*List.length z.2.2.1+4*List.length z.2.2.2.1+1*List.length z.2.2.2.2.1+1*List.length z.q.1+1+1+1+1+1+1:Nat):Int),((n+1+1+1*List.length z.2.2.1+4*List.length z.2.2.2.1+1*List.length z.2.2.2.2.1+1*List.length z.q.1+1+1+1+1+1+1+1:Nat):Int),((n+1+1+1*List.length z.2.2.1+4*List.length z.2.2.2.1+1*List.length z.2.2.2.2.1+1*List.length z.q.1+1+1+1+1+1+1+1+1:Nat):Int),l15,()),⟨rfl,rfl,g2,g3,g4,g5,rfl,rfl,rfl,rfl,rfl,rfl,rfl,rfl,rfl,g15⟩,?_⟩;rw [←hm];simp only [fG,nP,az hk,aw,cond_true,aC,List.length_set,cX hk,hz,List.getElem?_set_self hk,List.set_set,Option.bind_some,e2,e3,e4,e5,e15,cq b0,cq b1,cq b6,cq b7,cq b8,cq b9,cq Zq,cq Th,cq b12,cq b13,cq b14,aE Ra]
set_option maxHeartbeats 4000000 in
theorem Rb (l:List (au)) (k:Nat) (z y:au) (n:Nat) (hk:k<l.length) (Ra:k<4611686018427387904) (hy:l[k]?=some y) (hd:Bg z n y) (hn:n+ar z≤277830696960):fI (l,((n:Nat):Int),((k:Nat):Int),())=some (.inl (l,((n+ar z:Nat):Int),((k+1:Nat):Int),())):=by
 have hm:n+1+1+1*List.length z.2.2.1+4*List.length z.2.2.2.1+1*List.length z.2.2.2.2.1+1*List.length z.q.1+1+1+1+1+1+1+1+1+1+1*List.length z.q.q.q.1=n+ar z:=by unfold ar;omega
 have b0:n≤549755813888:=by omega
 have b1:n+1≤549755813888:=by omega
 have b2:n+1+1≤549755813888:=by omega
 have b3:n+1+1+1*List.length z.2.2.1≤549755813888:=by omega
 have b4:n+1+1+1*List.length z.2.2.1+4*List.length z.2.2.2.1≤549755813888:=by omega
 have b5:n+1+1+1*List.length z.2.2.1+4*List.length z.2.2.2.1+1*List.length z.2.2.2.2.1≤549755813888:=by omega
 have b6:n+1+1+1*List.length z.2.2.1+4*List.length z.2.2.2.1+1*List.length z.2.2.2.2.1+1*List.length z.q.1≤549755813888:=by omega
 have b7:n+1+1+1*List.length z.2.2.1+4*List.length z.2.2.2.1+1*List.length z.2.2.2.2.1+1*List.length z.q.1+1≤549755813888:=by omega
 have b8:n+1+1+1*List.length z.2.2.1+4*List.length z.2.2.2.1+1*List.length z.2.2.2.2.1+1*List.length z.q.1+1+1≤549755813888:=by omega
 have b9:n+1+1+1*List.length z.2.2.1+4*List.length z.2.2.2.1+1*List.length z.2.2.2.2.1+1*List.length z.q.1+1+1+1≤549755813888:=by omega
 have Zq:n+1+1+1*List.length z.2.2.1+4*List.length z.2.2.2.1+1*List.length z.2.2.2.2.1+1*List.length z.q.1+1+1+1+1≤549755813888:=by omega
 have Th:n+1+1+1*List.length z.2.2.1+4*List.length z.2.2.2.1+1*List.length z.2.2.2.2.1+1*List.length z.q.1+1+1+1+1+1≤549755813888:=by omega
 have b12:n+1+1+1*List.length z.2.2.1+4*List.length z.2.2.2.1+1*List.length z.2.2.2.2.1+1*List.length z.q.1+1+1+1+1+1+1≤549755813888:=by omega
 have b13:n+1+1+1*List.length z.2.2.1+4*List.length z.2.2.2.1+1*List.length z.2.2.2.2.1+1*List.length z.q.1+1+1+1+1+1+1+1≤549755813888:=by omega
 have b14:n+1+1+1*List.length z.2.2.1+4*List.length z.2.2.2.1+1*List.length z.2.2.2.2.1+1*List.length z.q.1+1+1+1+1+1+1+1+1≤549755813888:=by omega
 have b15:n+1+1+1*List.length z.2.2.1+4*List.length z.2.2.2.1+1*List.length z.2.2.2.2.1+1*List.length z.q.1+1+1+1+1+1+1+1+1+1≤549755813888:=by omega
 obtain ⟨h0,h1,h2,h3,h4,h5,h6,h7,h8,h9,h10,h11,h12,h13,h14,h15⟩:=hd;rw [←hm];simp only [fI,nS,az hk,aw,cond_true,cond_false,aC,hy,decide_true,cG,beq_self_eq_true,Bool.not_true,Option.bind_some,h0,h1,h2,h3,h4,h5,h6,h7,h8,h9,h10,h11,h12,h13,h14,h15,cq b0,cq b1,cq b6,cq b7,cq b8,cq b9,cq Zq,cq Th,cq b12,cq b13,cq b14,HC,aE Ra]
theorem Rc (xs:List (au)) (a:Nat) (h:List.length xs+wl ak xs≤268435456) (ha:a≤274877906944):∃l,nQ xs ((a:Nat):Int)=some (((a+wl ar xs:Nat):Int),l,())∧nT l ((a:Nat):Int)=some (((a+wl ar xs:Nat):Int),())∧(List.length l=List.length xs∧wl ar xs≤11*(List.length xs+wl ak xs)):=by
 have hm:=m7 xs;obtain ⟨l,h1,h2,h3⟩:=Ce ar Bg fG xs a (fun l m hl=>by simp only [fG,nP,hl,aD,cond_false]) (fun l k hk n hl hz hn=>Q9 l k xs[k] n (by omega) (by omega) hz (Nat.le_trans (mJ ak xs _ (List.getElem_mem hk)) (by omega)) (by omega));refine ⟨l,?_,?_,h2,hm⟩
 ·unfold nQ;rw [h1];rfl
 ·have h4:=Cf ar Bg fI xs l a h2 h3 (fun m=>by simp only [fI,nS,h2,aD,cond_false]) (fun k hk n y uP hy hd hn=>Rb l k xs[k] y n uP (by omega) hy hd (by omega));unfold nT;rw [h4];rfl
def aM (x:a6):Nat:=1+1+1+1+1+1+1+1*List.length x.q.2.2.1+1+1+1+1
theorem Bh (x:a6):aM x≤11*(1+aH x):=by
 unfold aM aH;omega
theorem Ab (xs:List (a6)):wl aM xs≤11*(List.length xs+wl aH xs):=Be _ _ 11 Bh xs
def Dn (x:a6) (n:Nat) (y:a6):Prop:=y.1=((n:Nat):Int)∧y.2.1=(decide (Int.tmod ((n+1:Nat):Int) (3:Int)=(0:Int)))∧y.2.2.1=((n+1+1:Nat):Int)∧y.2.2.2.1=((n+1+1+1:Nat):Int)∧y.2.2.2.2.1=((n+1+1+1+1:Nat):Int)∧y.q.1=((n+1+1+1+1+1:Nat):Int)∧y.q.2.1=((n+1+1+1+1+1+1:Nat):Int)∧dx y.q.2.2.1 ((n+1+1+1+1+1+1+1:Nat):Int)=some (((n+1+1+1+1+1+1+1+1*List.length x.q.2.2.1:Nat):Int),())∧y.q.2.2.2.1=((n+1+1+1+1+1+1+1+1*List.length x.q.2.2.1:Nat):Int)∧y.q.2.2.2.2.1=((n+1+1+1+1+1+1+1+1*List.length x.q.2.2.1+1:Nat):Int)∧y.q.q.1=((n+1+1+1+1+1+1+1+1*List.length x.q.2.2.1+1+1:Nat):Int)∧y.q.q.2.1=v8 (n+1+1+1+1+1+1+1+1*List.length x.q.2.2.1+1+1+1)
theorem Ti (l:List (a6)) (k:Nat) (z:a6) (n:Nat) (hk:k<l.length) (Ra:k<4611686018427387904) (hz:l[k]?=some z) (hw:aH z≤268435456) (hn:n+aM z≤277830696960):∃y,Dn z n y∧gK (l,((n:Nat):Int),((k:Nat):Int),())=some (.inl (l.set k y,((n+aM z:Nat):Int),((k+1:Nat):Int),())):=by
 have hm:n+1+1+1+1+1+1+1+1*List.length z.q.2.2.1+1+1+1+1=n+aM z:=by unfold aM;omega
 have b0:n≤549755813888:=by omega
 have b1:n+1≤549755813888:=by omega
 have b2:n+1+1≤549755813888:=by omega
 have b3:n+1+1+1≤549755813888:=by omega
 have b4:n+1+1+1+1≤549755813888:=by omega
 have b5:n+1+1+1+1+1≤549755813888:=by omega
 have b6:n+1+1+1+1+1+1≤549755813888:=by omega
 have b7:n+1+1+1+1+1+1+1≤549755813888:=by omega
 have b8:n+1+1+1+1+1+1+1+1*List.length z.q.2.2.1≤549755813888:=by omega
 have b9:n+1+1+1+1+1+1+1+1*List.length z.q.2.2.1+1≤549755813888:=by omega
 have Zq:n+1+1+1+1+1+1+1+1*List.length z.q.2.2.1+1+1≤549755813888:=by omega
 have Th:n+1+1+1+1+1+1+1+1*List.length z.q.2.2.1+1+1+1≤549755813888:=by omega
 have hw0:aH z=(List.length z.q.2.2.1+wl jN z.q.2.2.1)+ByteArray.size z.q.q.2.1:=rfl;obtain ⟨l7,e7,g7,_⟩:=Bf z.q.2.2.1 (n+1+1+1+1+1+1+1) (by omega) (by omega);refine ⟨(((n:Nat):Int),(decide (Int.tmod ((n+1:Nat):Int) (3:Int)=(0:Int))),((n+1+1:Nat):Int),((n+1+1+1:Nat):Int),((n+1+1+1+1:Nat):Int),((n+1+1+1+1+1:Nat):Int),((n+1+1+1+1+1+1:Nat):Int),l7,((n+1+1+1+1+1+1+1+1*List.length z.q.2.2.1:Nat):Int),((n+1+1+1+1+1+1+1+1*List.length z.q.2.2.1+1:Nat):Int),((n+1+1+1+1+1+1+1+1*List.length z.q.2.2.1+1+1:Nat):Int),v8 (n+1+1+1+1+1+1+1+1*List.length z.q.2.2.1+1+1+1),()),⟨rfl,rfl,rfl,rfl,rfl,rfl,rfl,g7,rfl,rfl,rfl,rfl⟩,?_⟩;rw [←hm];simp only [gK,oK,az hk,aw,cond_true,aC,List.length_set,cX hk,hz,List.getElem?_set_self hk,List.set_set,Option.bind_some,e7,cq b0,cq b1,cq b2,cq b3,cq b4,cq b5,cq b6,cq b8,cq b9,cq Zq,cq Th,Ji Th,aE Ra]
theorem Tj (l:List (a6)) (k:Nat) (z y:a6) (n:Nat) (hk:k<l.length) (Ra:k<4611686018427387904) (hy:l[k]?=some y) (hd:Dn z n y) (hn:n+aM z≤277830696960):gM (l,((n:Nat):Int),((k:Nat):Int),())=some (.inl (l,((n+aM z:Nat):Int),((k+1:Nat):Int),())):=by
 have hm:n+1+1+1+1+1+1+1+1*List.length z.q.2.2.1+1+1+1+1=n+aM z:=by unfold aM;omega
 have b0:n≤549755813888:=by omega
 have b1:n+1≤549755813888:=by omega
 have b2:n+1+1≤549755813888:=by omega
 have b3:n+1+1+1≤549755813888:=by omega
 have b4:n+1+1+1+1≤549755813888:=by omega
 have b5:n+1+1+1+1+1≤549755813888:=by omega
 have b6:n+1+1+1+1+1+1≤549755813888:=by omega
 have b7:n+1+1+1+1+1+1+1≤549755813888:=by omega
 have b8:n+1+1+1+1+1+1+1+1*List.length z.q.2.2.1≤549755813888:=by omega
 have b9:n+1+1+1+1+1+1+1+1*List.length z.q.2.2.1+1≤549755813888:=by omega
 have Zq:n+1+1+1+1+1+1+1+1*List.length z.q.2.2.1+1+1≤549755813888:=by omega
 have Th:n+1+1+1+1+1+1+1+1*List.length z.q.2.2.1+1+1+1≤549755813888:=by omega
 obtain ⟨h0,h1,h2,h3,h4,h5,h6,h7,h8,h9,h10,h11⟩:=hd;rw [←hm];simp only [gM,oM,az hk,aw,cond_true,cond_false,aC,hy,decide_true,cG,beq_self_eq_true,Bool.not_true,Option.bind_some,h0,h1,h2,h3,h4,h5,h6,h7,h8,h9,h10,h11,cq b0,cq b1,cq b2,cq b3,cq b4,cq b5,cq b6,cq b8,cq b9,cq Zq,cq Th,Ji Th,HC,aE Ra]
theorem Tk (xs:List (a6)) (a:Nat) (h:List.length xs+wl aH xs≤268435456) (ha:a≤274877906944):∃l,ph xs ((a:Nat):Int)=some (((a+wl aM xs:Nat):Int),l,())∧pk l ((a:Nat):Int)=some (((a+wl aM xs:Nat):Int),())∧(List.length l=List.length xs∧wl aM xs≤11*(List.length xs+wl aH xs)):=by
 have hm:=Ab xs;obtain ⟨l,h1,h2,h3⟩:=Ce aM Dn gK xs a (fun l m hl=>by simp only [gK,oK,hl,aD,cond_false]) (fun l k hk n hl hz hn=>Ti l k xs[k] n (by omega) (by omega) hz (Nat.le_trans (mJ aH xs _ (List.getElem_mem hk)) (by omega)) (by omega));refine ⟨l,?_,?_,h2,hm⟩
 ·unfold ph;rw [h1];rfl
 ·have h4:=Cf aM Dn gM xs l a h2 h3 (fun m=>by simp only [gM,oM,h2,aD,cond_false]) (fun k hk n y uP hy hd hn=>Tj l k xs[k] y n uP (by omega) hy hd (by omega));unfold pk;rw [h4];rfl
def bU (x:ah×Unit):Nat:=4*List.length x.1
theorem Oo (x:ah×Unit):bU x≤4*(1+bD x):=by
 unfold bU bD;omega
theorem K9 (xs:List (ah×Unit)):wl bU xs≤4*(List.length xs+wl bD xs):=Be _ _ 4 Oo xs
def uz (x:ah×Unit) (n:Nat) (y:ah×Unit):Prop:=fy y.1 ((n:Nat):Int)=some (((n+4*List.length x.1:Nat):Int),())
theorem Oq (l:List (ah×Unit)) (k:Nat) (z:ah×Unit) (n:Nat) (hk:k<l.length) (Ra:k<4611686018427387904) (hz:l[k]?=some z) (hw:bD z≤268435456) (hn:n+bU z≤275951648768):∃y,uz z n y∧eX (l,((n:Nat):Int),((k:Nat):Int),())=some (.inl (l.set k y,((n+bU z:Nat):Int),((k+1:Nat):Int),())):=by
 have hm:n+4*List.length z.1=n+bU z:=by unfold bU;omega
 have b0:n≤549755813888:=by omega
 have hw0:bD z=(List.length z.1+wl bP z.1):=rfl;obtain ⟨l0,e0,g0,_⟩:=EM z.1 (n) (by omega) (by omega);refine ⟨(l0,()),g0,?_⟩;rw [←hm];simp only [eX,mL,az hk,aw,cond_true,aC,List.length_set,cX hk,hz,List.getElem?_set_self hk,List.set_set,Option.bind_some,e0,aE Ra]
theorem Ot (l:List (ah×Unit)) (k:Nat) (z y:ah×Unit) (n:Nat) (hk:k<l.length) (Ra:k<4611686018427387904) (hy:l[k]?=some y) (hd:uz z n y) (hn:n+bU z≤275951648768):eY (l,((n:Nat):Int),((k:Nat):Int),())=some (.inl (l,((n+bU z:Nat):Int),((k+1:Nat):Int),())):=by
 have hm:n+4*List.length z.1=n+bU z:=by unfold bU;omega
 have b0:n≤549755813888:=by omega
 unfold uz at hd;have h0:=hd;rw [←hm];simp only [eY,mM,az hk,aw,cond_true,cond_false,aC,hy,decide_true,cG,beq_self_eq_true,Bool.not_true,Option.bind_some,h0,HC,aE Ra]
theorem Ou (xs:List (ah×Unit)) (a:Nat) (h:List.length xs+wl bD xs≤268435456) (ha:a≤274877906944):∃l,mD xs ((a:Nat):Int)=some (((a+wl bU xs:Nat):Int),l,())∧mE l ((a:Nat):Int)=some (((a+wl bU xs:Nat):Int),())∧(List.length l=List.length xs∧wl bU xs≤4*(List.length xs+wl bD xs)):=by
 have hm:=K9 xs;obtain ⟨l,h1,h2,h3⟩:=Ce bU uz eX xs a (fun l m hl=>by simp only [eX,mL,hl,aD,cond_false]) (fun l k hk n hl hz hn=>Oq l k xs[k] n (by omega) (by omega) hz (Nat.le_trans (mJ bD xs _ (List.getElem_mem hk)) (by omega)) (by omega));refine ⟨l,?_,?_,h2,hm⟩
 ·unfold mD;rw [h1];rfl
 ·have h4:=Cf bU uz eY xs l a h2 h3 (fun m=>by simp only [eY,mM,h2,aD,cond_false]) (fun k hk n y uP hy hd hn=>Ot l k xs[k] y n uP (by omega) hy hd (by omega));unfold mE;rw [h4];rfl
theorem Ml (bk:Int) (aT:aJ) (a8:aa) (a7:ae) (bt:ax) (bh:ah) (a:Nat) (h1:List.length aT≤268435456) (h2:List.length a8+wl ak a8≤268435456) (h3:List.length a7+wl aH a7≤268435456) (h4:List.length bt+wl bD bt≤268435456) (h5:List.length bh≤268435456) (ha:a≤137438953472):∃l1 l2 l3 l4 l5,iV bk aT a8 a7 bt bh ((a:Nat):Int)=some (((a+1*List.length aT+wl ar a8+wl aM a7+wl bU bt+4*List.length bh:Nat):Int),l1,l2,l3,l4,l5,())∧iW bk l1 l2 l3 l4 l5 ((a:Nat):Int)=some (((a+1*List.length aT+wl ar a8+wl aM a7+wl bU bt+4*List.length bh:Nat):Int),())∧List.length l1=List.length aT∧(List.length l2=List.length a8∧wl ar a8≤11*(List.length a8+wl ak a8))∧(List.length l3=List.length a7∧wl aM a7≤11*(List.length a7+wl aH a7))∧(List.length l4=List.length bt∧wl bU bt≤4*(List.length bt+wl bD bt))∧List.length l5=List.length bh:=by
 obtain ⟨l1,e0,g0,nl1⟩:=Tg bk aT (a) h1 (by omega);obtain ⟨l2,e1,g1,nl2⟩:=Rc a8 (a+1*List.length aT) h2 (by omega);obtain ⟨l3,e2,g2,nl3⟩:=Tk a7 (a+1*List.length aT+wl ar a8) h3 (by omega);obtain ⟨l4,e3,g3,nl4⟩:=Ou bt (a+1*List.length aT+wl ar a8+wl aM a7) h4 (by omega);obtain ⟨l5,e4,g4,nl5⟩:=EM bh (a+1*List.length aT+wl ar a8+wl aM a7+wl bU bt) h5 (by omega);refine ⟨l1,l2,l3,l4,l5,?_,?_,nl1,nl2,nl3,nl4,nl5⟩
 ·simp only [iV,e0,e1,e2,e3,e4,Option.bind_some]<;>rfl
 ·simp only [iW,g0,g1,g2,g3,g4,Option.bind_some,cond_false,aq (show ¬((a+1*List.length aT:Nat):Int)<0 by omega),aq (show ¬((a+1*List.length aT+wl ar a8:Nat):Int)<0 by omega),aq (show ¬((a+1*List.length aT+wl ar a8+wl aM a7:Nat):Int)<0 by omega),aq (show ¬((a+1*List.length aT+wl ar a8+wl aM a7+wl bU bt:Nat):Int)<0 by omega),aq (show ¬((a+1*List.length aT+wl ar a8+wl aM a7+wl bU bt+4*List.length bh:Nat):Int)<0 by omega)]
end Go.TM
set_option linter.unusedSimpArgs false
set_option linter.unusedVariables false
namespace Go.TM
open Go
theorem sv (a b c:Int):cm a b c=some (decide (b≤a)&&decide (a≤c),()):=by
 unfold cm
 cases decide (b≤a)<;>rfl
theorem wa (a b c:Int):ch a b c=some (decide (b≤a)&&decide (a≤c),()):=by
 unfold ch
 cases decide (b≤a)<;>rfl
theorem ra (a:Int):iT a=some (decide (1≤a)&&decide (a≤5),()):=by
 unfold iT;rw [wa];rfl
def Dp {A B:Type}:Sum A (Bool×Unit)→Sum B (Bool×Unit)→Prop
 |.inl _,.inl _=>True
 |.inr a,.inr b=>a.1=b.1
 |_,_=>False
theorem rb {k:Nat} (h0:0<k) (h:k<4611686018427387904):IntKind.i64.wrap (((k:Nat):Int)-(1:Int))=(((k-1:Nat)):Int):=by
 rw [dk]<;>omega
theorem Ov (c:Int) (xs:List (Int×Unit)) (h:xs.length≤1048576) :
  ∃e f,aF ey (c,xs,(0:Int),())=some e∧aF lf (c,xs,xs,((List.length xs:Nat):Int),(0:Int),())=some f∧Dp e f:=by
 refine nm xs.length (fun k x y=>x=(c,xs,((k:Nat):Int),())∧y=(c,xs,xs,((List.length xs:Nat):Int),((k:Nat):Int),())) Dp ?_ ⟨rfl,rfl⟩
 rintro k x y hk ⟨rfl,rfl⟩
 by_cases cA:k<xs.length
 ·simp only [ey,kX,lf,se,az cA,aw,cond_true,aC,List.getElem?_eq_getElem cA,Option.bind_some,sv,ra,aE (show k<4611686018427387904 by omega)]
  cases (decide (1≤xs[k].1)&&decide (xs[k].1≤5))
  ·exact .inl ⟨.inr (false,()),.inr (false,()),rfl,rfl,rfl⟩
  ·by_cases h0:0<k
   ·have hp:k-1<xs.length:=by omega
    rw [rb h0 (by omega)];simp only [aj (show (0:Int)<((k:Nat):Int) by omega),Bool.not_true,cond_false,cond_true,aw,aC,List.getElem?_eq_getElem hp,Option.bind_some]
    cases decide (xs[k].1≤xs[k-1].1)
    ·exact .inr ⟨cA,_,_,rfl,rfl,rfl,rfl⟩
    ·exact .inl ⟨.inr (false,()),.inr (false,()),rfl,rfl,rfl⟩
   ·have:k=0:=by omega
    subst this;simp only [aq (show ¬(0:Int)<((0:Nat):Int) by omega),Bool.not_true,cond_false];exact .inr ⟨cA,_,_,rfl,rfl,rfl,rfl⟩
 ·have:k=xs.length:=by omega
  subst this;exact .inl ⟨.inl (),.inl (),by simp only [ey,kX,aD,cond_false],by simp only [lf,se,aD,cond_false],trivial⟩
theorem Ch (c:Int) (xs:List (Int×Unit)) (h:xs.length≤1048576):∃b,gj c xs=some (b,())∧jU c xs=some (b,())∧(b=true→1≤xs.length∧xs.length≤5):=by
 obtain ⟨e,f,h1,h2,h3⟩:=Ov c xs h;unfold gj jU;simp only [sv,wa,Option.bind_some,h1,h2]
 cases (decide (1≤c)&&decide (c≤9))
 ·exact ⟨false,rfl,rfl,fun h=>by cases h⟩
 cases hb:(decide (1≤((List.length xs:Nat):Int))&&decide (((List.length xs:Nat):Int)≤5))
 ·exact ⟨false,rfl,rfl,fun h=>by cases h⟩
 have hl:1≤xs.length∧xs.length≤5:=by
  rw [Bool.and_eq_true,decide_eq_true_eq,decide_eq_true_eq] at hb;omega
 cases e with
 |inl e=>cases f with
  |inl f=>exact ⟨true,rfl,rfl,fun _=>hl⟩
  |inr f=>exact h3.elim
 |inr e=>cases f with
  |inl f=>exact h3.elim
  |inr f=>exact ⟨e.1,rfl,by rw [show e.1=f.1 from h3];rfl,fun _=>hl⟩
end Go.TM
set_option linter.unusedSimpArgs false
set_option linter.unusedVariables false
namespace Go.TM
open Go
def Uv (e:Sum Unit (Bool×Unit)) (f:Sum Unit (Int×Unit)):Prop:=∃b,(e=.inl ()∧f=.inl ()∧b=false)∨(e=.inr (true,())∧(∃k:Nat,f=.inr (((k:Nat):Int),()))∧b=true)
theorem Tl (d:Int) (xs:List (Int×Unit)) (h:xs.length≤1048576) :
  ∃e f,aF cO (xs,d,(0:Int),())=some e∧aF bJ (xs,d,((List.length xs:Nat):Int),(0:Int),())=some f∧Uv e f:=by
 refine nm xs.length (fun k x y=>x=(xs,d,((k:Nat):Int),())∧y=(xs,d,((List.length xs:Nat):Int),((k:Nat):Int),())) Uv ?_ ⟨rfl,rfl⟩
 rintro k x y hk ⟨rfl,rfl⟩
 by_cases cA:k<xs.length
 ·simp only [cO,iR,bJ,dK,az cA,aw,cond_true,aC,List.getElem?_eq_getElem cA,Option.bind_some,aE (show k<4611686018427387904 by omega)]
  by_cases hd:xs[k].1=d
  ·rw [aj hd,aj hd.symm];exact .inl ⟨.inr (true,()),.inr (((k:Nat):Int),()),rfl,rfl,true,.inr ⟨rfl,⟨k,rfl⟩,rfl⟩⟩
  ·rw [aq hd,aq (fun e=>hd e.symm)];exact .inr ⟨cA,_,_,rfl,rfl,rfl,rfl⟩
 ·have:k=xs.length:=by omega
  subst this;exact .inl ⟨.inl (),.inl (),by simp only [cO,iR,aD,cond_false],by simp only [bJ,dK,aD,cond_false],false,.inl ⟨rfl,rfl,rfl⟩⟩
theorem yR (d:Int) (xs:List (Int×Unit)) (h:xs.length≤1048576):∃b,fO xs d=some (b,())∧eC xs d=some (b,()):=by
 obtain ⟨e,f,h1,h2,b,h3⟩:=Tl d xs h;unfold fO eC jA;rw [h1,h2];rcases h3 with ⟨rfl,rfl,rfl⟩ | ⟨rfl,⟨k,rfl⟩,rfl⟩
 ·exact ⟨false,rfl,rfl⟩
 ·refine ⟨true,rfl,?_⟩;simp only [bN,Option.bind_some,aw]
end Go.TM
set_option linter.unusedSimpArgs false
set_option linter.unusedVariables false
namespace Go.TM
open Go
def Re (t:Int×Int×Int×Int×Int×(List (Int×Unit))×Unit):Sum Unit (Bool×Unit)→Sum (Int×Int×Int×Int×Int×(List (Int×Unit))×Unit) (Bool×Unit)→Prop
 |.inl _,.inl z=>z=t
 |.inr a,.inr b=>a.1=false∧b.1=false
 |_,_=>False
theorem La (c0 c1 c2 c3 c4:Int) (xs:List (Int×Unit)) (h:xs.length≤1048576) :
  ∃e f,aF dU (c0,c1,c2,c3,c4,xs,(0:Int),())=some e∧aF kj (c0,c1,c2,c3,c4,xs,xs,((List.length xs:Nat):Int),(0:Int),())=some f∧Re (c0,c1,c2,c3,c4,xs,()) e f:=by
 refine nm xs.length (fun k x y=>x=(c0,c1,c2,c3,c4,xs,((k:Nat):Int),())∧y=(c0,c1,c2,c3,c4,xs,xs,((List.length xs:Nat):Int),((k:Nat):Int),())) (Re (c0,c1,c2,c3,c4,xs,())) ?_ ⟨rfl,rfl⟩
 rintro k x y hk ⟨rfl,rfl⟩
 by_cases cA:k<xs.length
 ·simp only [dU,kh,kj,qi,az cA,aw,cond_true,aC,List.getElem?_eq_getElem cA,Option.bind_some,sv,wa,aE (show k<4611686018427387904 by omega)]
  cases (decide (1≤xs[k].1)&&decide (xs[k].1≤c2))
  ·exact .inl ⟨.inr (false,()),.inr (false,()),rfl,rfl,rfl,rfl⟩
  ·by_cases h0:0<k
   ·have hp:k-1<xs.length:=by omega
    rw [rb h0 (by omega)];simp only [aj (show (0:Int)<((k:Nat):Int) by omega),Bool.not_true,cond_false,cond_true,aw,aC,List.getElem?_eq_getElem hp,Option.bind_some]
    cases decide (xs[k].1≤xs[k-1].1)
    ·exact .inr ⟨cA,_,_,rfl,rfl,rfl,rfl⟩
    ·exact .inl ⟨.inr (false,()),.inr (false,()),rfl,rfl,rfl,rfl⟩
   ·have:k=0:=by omega
    subst this;simp only [aq (show ¬(0:Int)<((0:Nat):Int) by omega),Bool.not_true,cond_false];exact .inr ⟨cA,_,_,rfl,rfl,rfl,rfl⟩
 ·have:k=xs.length:=by omega
  subst this;exact .inl ⟨.inl (),.inl (c0,c1,c2,c3,c4,xs,()),by simp only [dU,kh,aD,cond_false],by simp only [kj,qi,aD,cond_false],rfl⟩
theorem wc (c0 c1 c2 c3 c4:Int) (xs:List (Int×Unit)) (h:xs.length≤1048576):∃b,dF c0 c1 c2 c3 c4 xs=some (b,())∧gd c0 c1 c2 c3 c4 xs=some (b,())∧(b=true→0≤c2∧c2≤60∧0≤c3∧c3≤c2∧xs.length≤20∧(∀y∈[c0,c1],1≤y)):=by
 obtain ⟨e,f,h1,h2,h3⟩:=La c0 c1 c2 c3 c4 xs h;unfold dF gd;simp only [sv,wa,Option.bind_some,h1,h2]
 cases q0:(decide (1≤c0)&&decide (c0≤9))
 ·exact ⟨false,rfl,rfl,fun h=>by cases h⟩
 cases q1:(decide (1≤c1)&&decide (c1≤1000000000))
 ·exact ⟨false,rfl,rfl,fun h=>by cases h⟩
 cases q2:(decide (0≤c2)&&decide (c2≤60))
 ·exact ⟨false,rfl,rfl,fun h=>by cases h⟩
 cases e with
 |inl e=>cases f with
  |inl f=>
   have h3:f=(c0,c1,c2,c3,c4,xs,()):=h3;subst h3;simp only [bN,Option.bind_some,wa,Bool.not_true,cond_false]
   cases q3:(decide (0≤c3)&&decide (c3≤c2))
   ·exact ⟨false,rfl,rfl,fun h=>by cases h⟩
   cases (decide (0≤c4)&&decide (c4≤5))
   ·exact ⟨false,rfl,rfl,fun h=>by cases h⟩
   by_cases hl:((List.length xs:Nat):Int)≤20
   ·rw [aj hl,aq (show ¬(20:Int)<((List.length xs:Nat):Int) by omega)];refine ⟨true,rfl,rfl,fun _ => ?_⟩;rw [Bool.and_eq_true,decide_eq_true_eq,decide_eq_true_eq] at q0 q1 q2 q3;refine ⟨q2.1,q2.2,q3.1,q3.2,by omega,fun y hy => ?_⟩;rcases List.mem_cons.1 hy with rfl | hy
    ·exact q0.1
    ·rcases List.mem_cons.1 hy with rfl | hy
     ·exact q1.1
     ·cases hy
   ·rw [aq hl,aj (show (20:Int)<((List.length xs:Nat):Int) by omega)];exact ⟨false,rfl,rfl,fun h=>by cases h⟩
  |inr f=>exact h3.elim
 |inr e=>cases f with
  |inl f=>exact h3.elim
  |inr f=>
   obtain ⟨e1,e2⟩:=(show e.1=false∧f.1=false from h3);refine ⟨false,?_,by rw [←e2];rfl,fun h=>by cases h⟩
   cases (decide (0≤c3)&&decide (c3≤c2))
   ·rfl
   cases (decide (0≤c4)&&decide (c4≤5))
   ·rfl
   cases decide ((20:Int)<((List.length xs:Nat):Int))
   ·show some (e.1,())=some (false,());rw [e1]
   ·rfl
theorem re (xs:List (Int×Unit)) (h:xs.length≤1048576):eT xs=some (xs,()):=by
 unfold eT;rw [aQ (show (0+xs.length)*8≤lim by unfold lim;omega)];rfl
theorem gh (c0 c1 c2 c3 c4:Int) (xs:List (Int×Unit)) (h:xs.length≤1048576):aP c0 c1 c2 c3 c4 xs=some (c0,c1,c2,c3,c4,xs,())∧cM c0 c1 c2 c3 c4 xs=some (c0,c1,c2,c3,c4,xs,()):=by
 constructor
 ·unfold aP;rw [aQ (show (0+xs.length)*8≤lim by unfold lim;omega)];rfl
 ·unfold cM;rw [re xs h];rfl
def we (c2:Int) (xs:List (Int×Unit)) (n:Nat):Prop:=∀k (h:k<xs.length),k<n→1≤xs[k].1∧xs[k].1≤c2∧∀h0:0<k,xs[k-1].1<xs[k].1
def Zr (c0 c1 c2 c3 c4:Int) (xs:List (Int×Unit)):Prop:=(1≤c0∧c0≤9)∧(1≤c1∧c1≤1000000000)∧(0≤c2∧c2≤60)∧(0≤c3∧c3≤c2)∧(0≤c4∧c4≤5)∧xs.length≤20∧we c2 xs xs.length
theorem GN (c0 c1 c2 c3 c4:Int) (xs:List (Int×Unit)) (h:xs.length≤1048576):∃b,dF c0 c1 c2 c3 c4 xs=some (b,())∧gd c0 c1 c2 c3 c4 xs=some (b,())∧(b=true↔Zr c0 c1 c2 c3 c4 xs):=by
 obtain ⟨b,h1,h2,_⟩:=wc c0 c1 c2 c3 c4 xs h;refine ⟨b,h1,h2,?_⟩;obtain ⟨e,he,hq⟩:=cL (round:=dU) (x:=(c0,c1,c2,c3,c4,xs,((0:Nat):Int),())) xs.length (fun k x=>x=(c0,c1,c2,c3,c4,xs,((k:Nat):Int),())∧we c2 xs k)
  (fun e=>(e=.inl ()∧we c2 xs xs.length)∨(e=.inr (false,())∧¬we c2 xs xs.length)) (by
   rintro x ⟨rfl,g⟩
   exact ⟨.inl (),by simp only [dU,kh,aD,cond_false],.inl ⟨rfl,g⟩⟩) (by
   rintro k x cA ⟨rfl,g⟩
   simp only [dU,kh,az cA,aw,cond_true,aC,List.getElem?_eq_getElem cA,Option.bind_some,sv,aE (show k<4611686018427387904 by omega)];have more:1≤xs[k].1→xs[k].1≤c2→(∀h0:0<k,xs[k-1].1<xs[k].1)→we c2 xs (k+1):=by
    intro w1 w2 w3 j hj Bs
    by_cases e:j<k
    ·exact g j hj e
    ·have:j=k:=by omega
     subst this;exact ⟨w1,w2,w3⟩
   cases Db:(decide (1≤xs[k].1)&&decide (xs[k].1≤c2))
   ·refine .inl ⟨.inr (false,()),rfl,.inr ⟨rfl,fun hn => ?_⟩⟩;obtain ⟨w1,w2,_⟩:=hn k cA cA;rw [aj w1,aj w2] at Db
    cases Db
   ·rw [Bool.and_eq_true,decide_eq_true_eq,decide_eq_true_eq] at Db
    by_cases h0:0<k
    ·have hp:k-1<xs.length:=by omega
     rw [rb h0 (by omega)];simp only [aj (show (0:Int)<((k:Nat):Int) by omega),Bool.not_true,cond_false,cond_true,aw,aC,List.getElem?_eq_getElem hp,Option.bind_some]
     by_cases hd:xs[k].1≤xs[k-1].1
     ·rw [aj hd];refine .inl ⟨.inr (false,()),rfl,.inr ⟨rfl,fun hn => ?_⟩⟩;have:=(hn k cA cA).2.2 h0;omega
     ·rw [aq hd];exact .inr ⟨_,rfl,rfl,more Db.1 Db.2 (fun _=>by omega)⟩
    ·have:k=0:=by omega
     subst this;simp only [aq (show ¬(0:Int)<((0:Nat):Int) by omega),Bool.not_true,cond_false];exact .inr ⟨_,rfl,rfl,more Db.1 Db.2 (fun h0=>absurd h0 (Nat.lt_irrefl 0))⟩) ⟨rfl,fun j _ h=>by omega⟩
 have he:aF dU (c0,c1,c2,c3,c4,xs,(0:Int),())=some e:=he;unfold dF at h1;simp only [sv,Option.bind_some,he] at h1;have no:∀ {p:Prop},(some (false,()):Option (Bool×Unit))=some (b,())→¬p→(b=true↔p):=by
  intro p e1 hp;injection e1 with e1;injection e1 with e1;subst e1;exact ⟨(fun h=>by cases h),fun h=>absurd h hp⟩
 have yes:∀ {p:Prop},(some (true,()):Option (Bool×Unit))=some (b,())→p→(b=true↔p):=by
  intro p e1 hp;injection e1 with e1;injection e1 with e1;subst e1;exact ⟨fun _=>hp,fun _=>rfl⟩
 by_cases q0:1≤c0∧c0≤9
 case neg=>
  rw [show (decide (1≤c0)&&decide (c0≤9))=false by rw [Bool.and_eq_false_iff,decide_eq_false_iff_not,decide_eq_false_iff_not];omega] at h1;exact no h1 (fun h=>q0 h.1)
 rw [aj q0.1,aj q0.2] at h1
 by_cases q1:1≤c1∧c1≤1000000000
 case neg=>
  rw [show (decide (1≤c1)&&decide (c1≤1000000000))=false by rw [Bool.and_eq_false_iff,decide_eq_false_iff_not,decide_eq_false_iff_not];omega] at h1;exact no h1 (fun h=>q1 h.2.1)
 rw [aj q1.1,aj q1.2] at h1
 by_cases q2:0≤c2∧c2≤60
 case neg=>
  rw [show (decide (0≤c2)&&decide (c2≤60))=false by rw [Bool.and_eq_false_iff,decide_eq_false_iff_not,decide_eq_false_iff_not];omega] at h1;exact no h1 (fun h=>q2 h.2.2.1)
 rw [aj q2.1,aj q2.2] at h1
 by_cases q3:0≤c3∧c3≤c2
 case neg=>
  rw [show (decide (0≤c3)&&decide (c3≤c2))=false by rw [Bool.and_eq_false_iff,decide_eq_false_iff_not,decide_eq_false_iff_not];omega] at h1;exact no h1 (fun h=>q3 h.2.2.2.1)
 rw [aj q3.1,aj q3.2] at h1
 by_cases q4:0≤c4∧c4≤5
 case neg=>
  rw [show (decide (0≤c4)&&decide (c4≤5))=false by rw [Bool.and_eq_false_iff,decide_eq_false_iff_not,decide_eq_false_iff_not];omega] at h1;exact no h1 (fun h=>q4 h.2.2.2.2.1)
 rw [aj q4.1,aj q4.2] at h1
 by_cases q5:(20:Int)<((List.length xs:Nat):Int)
 ·rw [aj q5] at h1;exact no h1 (fun h=>by have:=h.q.1;omega)
 rw [aq q5] at h1;rcases hq with ⟨rfl,q⟩ | ⟨rfl,q⟩
 ·exact yes h1 ⟨q0,q1,q2,q3,q4,by omega,q⟩
 ·exact no h1 (fun h=>q h.q.2)
end Go.TM
set_option linter.unusedSimpArgs false
set_option linter.unusedVariables false
namespace Go.TM
open Go
theorem EN (a:Int):nF a=some (decide (1≤a)&&decide (a≤2),()):=by
 unfold nF
 by_cases h1:a=1
 ·subst h1;rfl
 by_cases h2:a=2
 ·subst h2;rfl
 have e:(decide (1≤a)&&decide (a≤2))=false:=by
  rw [Bool.and_eq_false_iff,decide_eq_false_iff_not,decide_eq_false_iff_not];omega
 rw [e,aq h1,aq h2];rfl
theorem Ow (a b c:Int) (s:ByteArray):∃x,iJ a b c s=some (x,())∧jV a b c s=some (x,()):=by
 unfold iJ jV;simp only [sv,wa,ra,EN,Option.bind_some]
 cases (decide (1≤a)&&decide (a≤60))
 ·exact ⟨_,rfl,rfl⟩
 cases (decide (1≤b)&&decide (b≤5))
 ·exact ⟨_,rfl,rfl⟩
 cases (decide (1≤c)&&decide (c≤2))
 ·exact ⟨_,rfl,rfl⟩
 ·exact ⟨_,rfl,rfl⟩
theorem Lc (xs:List (Int×Int×Int×ByteArray×Unit)) (h:xs.length≤1048576) :
  ∃e f,aF dS (xs,(0:Int),())=some e∧aF ki (xs,xs,((List.length xs:Nat):Int),(0:Int),())=some f∧Dp e f:=by
 refine nm xs.length (fun k x y=>x=(xs,((k:Nat):Int),())∧y=(xs,xs,((List.length xs:Nat):Int),((k:Nat):Int),())) Dp ?_ ⟨rfl,rfl⟩
 rintro k x y hk ⟨rfl,rfl⟩
 by_cases cA:k<xs.length
 ·obtain ⟨b,r1,r2⟩:=Ow xs[k].1 xs[k].2.1 xs[k].2.2.1 xs[k].2.2.2.1;simp only [dS,kg,ki,qh,az cA,aw,cond_true,aC,List.getElem?_eq_getElem cA,Option.bind_some,r1,r2,aE (show k<4611686018427387904 by omega)]
  cases b
  ·exact .inl ⟨.inr (false,()),.inr (false,()),rfl,rfl,rfl⟩
  ·by_cases h0:0<k
   ·have hp:k-1<xs.length:=by omega
    rw [rb h0 (by omega)];simp only [aj (show (0:Int)<((k:Nat):Int) by omega),Bool.not_true,cond_false,cond_true,aw,aC,List.getElem?_eq_getElem hp,Option.bind_some]
    cases decide (xs[k].1≤xs[k-1].1)
    ·exact .inr ⟨cA,_,_,rfl,rfl,rfl,rfl⟩
    ·exact .inl ⟨.inr (false,()),.inr (false,()),rfl,rfl,rfl⟩
   ·have:k=0:=by omega
    subst this;simp only [aq (show ¬(0:Int)<((0:Nat):Int) by omega),Bool.not_true,cond_false];exact .inr ⟨cA,_,_,rfl,rfl,rfl,rfl⟩
 ·have:k=xs.length:=by omega
  subst this;exact .inl ⟨.inl (),.inl (),by simp only [dS,kg,aD,cond_false],by simp only [ki,qh,aD,cond_false],trivial⟩
theorem EO (xs:List (Int×Int×Int×ByteArray×Unit)) (h:xs.length≤1048576):∃b,ga xs=some (b,())∧j4 xs=some (b,()):=by
 obtain ⟨e,f,h1,h2,h3⟩:=Lc xs h;unfold ga j4;rw [h1,h2]
 cases e with
 |inl e=>cases f with
  |inl f=>exact ⟨true,rfl,rfl⟩
  |inr f=>exact h3.elim
 |inr e=>cases f with
  |inl f=>exact h3.elim
  |inr f=>exact ⟨e.1,rfl,by rw [show e.1=f.1 from h3];rfl⟩
abbrev dv:Type:=Int×Int×Int×ByteArray×Unit
abbrev aW:Type:=List dv
def dL (xs:aW) (s:Int):Option dv:=xs.find? fun r=>decide (r.1=s)
def pn:Option dv→Int×Int×Int×ByteArray×Bool×Unit
 |none=>(0,0,0,ByteArray.empty,false,())
 |some r=>(r.1,r.2.1,r.2.2.1,r.2.2.2.1,true,())
def Mm:Option dv→Sum (Int×Int×Int×ByteArray×Unit) (Int×Int×Int×ByteArray×Bool×Unit)
 |none=>.inl (0,0,0,ByteArray.empty,())
 |some r=>.inr (pn (some r))
theorem GO (xs:aW) (s:Int) {k:Nat} (hk:k<xs.length):dL (xs.drop k) s=if xs[k].1=s then some xs[k] else dL (xs.drop (k+1)) s:=by
 unfold dL;rw [List.drop_eq_getElem_cons hk,List.find?_cons]
 by_cases h:xs[k].1=s
 ·rw [aj h,if_pos h]
 ·rw [aq h,if_neg h]
theorem td (xs:aW) (s:Int) (h:xs.length≤1048576):kY xs s=some (pn (dL xs s)):=by
 have hl:=ug (round:=jy) (n:=xs.length) (fun k=>(xs,s,(0:Int),(0:Int),(0:Int),ByteArray.empty,((k:Nat):Int),())) (fun k=>some (Mm (dL (xs.drop k) s)))
  ⟨.inl (0,0,0,ByteArray.empty,()),by simp only [jy,rT,aD,cond_false],by rw [List.drop_length];rfl⟩ (fun k hk=>by
   rw [GO xs s hk];simp only [jy,rT,az hk,aw,cond_true,aC,List.getElem?_eq_getElem hk,Option.bind_some,aE (show k<4611686018427387904 by omega)]
   by_cases h:xs[k].1=s
   ·rw [aj h,if_pos h];exact .inl ⟨_,rfl,rfl⟩
   ·rw [aq h,if_neg h];exact .inr ⟨rfl,rfl⟩) 0 (Nat.zero_le _)
 unfold kY;have hl:aF jy (xs,s,(0:Int),(0:Int),(0:Int),ByteArray.empty,(0:Int),())=_:=hl;rw [hl,List.drop_zero]
 cases dL xs s<;>rfl
theorem tf (xs:aW) (s:Int) (h:xs.length≤1048576):lg xs s=some (pn (dL xs s)):=by
 have hl:=ug (round:=jC) (n:=xs.length) (fun k=>(s,(0:Int),(0:Int),(0:Int),ByteArray.empty,xs,((List.length xs:Nat):Int),((k:Nat):Int),())) (fun k=>some (Mm (dL (xs.drop k) s)))
  ⟨.inl (0,0,0,ByteArray.empty,()),by simp only [jC,sf,aD,cond_false],by rw [List.drop_length];rfl⟩ (fun k hk=>by
   rw [GO xs s hk];simp only [jC,sf,az hk,aw,cond_true,aC,List.getElem?_eq_getElem hk,Option.bind_some,aE (show k<4611686018427387904 by omega)]
   by_cases h:xs[k].1=s
   ·rw [aj h,if_pos h];exact .inl ⟨_,rfl,rfl⟩
   ·rw [aq h,if_neg h];exact .inr ⟨rfl,rfl⟩) 0 (Nat.zero_le _)
 unfold lg;have hl:aF jC (s,(0:Int),(0:Int),(0:Int),ByteArray.empty,xs,((List.length xs:Nat):Int),(0:Int),())=_:=hl;rw [hl,List.drop_zero]
 cases dL xs s<;>rfl
theorem CU:(n:Nat)→(ys:List Int)→(∀i,i<n→((i+1:Nat):Int)∈ys)→n≤ys.length
 |0,_,_=>Nat.zero_le _
 |n+1,ys,h=>by
  have hm:=h n (by omega);have:=CU n (ys.erase ((n+1:Nat):Int)) (fun i hi=>(List.mem_erase_of_ne (by omega)).2 (h i (by omega)));rw [List.length_erase_of_mem hm] at this;have:0<ys.length:=List.length_pos_of_mem hm;omega
theorem EP {xs:aW} {s:Int} {r:dv} (h:dL xs s=some r):r∈xs∧r.1=s:=by
 unfold dL at h;exact ⟨List.mem_of_find?_eq_some h,by have:=List.find?_some h;simpa using this⟩
def Mn (xs:aW) (n:Nat):Prop:=n≤xs.length∧(∀i,i<n→(dL xs ((i+1:Nat):Int)).isSome=true)∧dL xs ((n+1:Nat):Int)=none
theorem Tm {xs:aW} (h:∀i,i<xs.length→(dL xs ((i+1:Nat):Int)).isSome=true):dL xs ((xs.length+1:Nat):Int)=none:=by
 cases hq:dL xs ((xs.length+1:Nat):Int) with
 |none=>rfl
 |some r=>
  have key:=CU (xs.length+1) (xs.map (·.1)) (fun i hi=>by
   have:∃r,dL xs ((i+1:Nat):Int)=some r:=by
    by_cases TI:i<xs.length
    ·exact Option.isSome_iff_exists.1 (h i TI)
    ·have:i=xs.length:=by omega
     subst this;exact ⟨r,hq⟩
   obtain ⟨r',hr⟩:=this;obtain ⟨m1,m2⟩:=EP hr;exact List.mem_map.2 ⟨r',m1,m2⟩)
  rw [List.length_map] at key;omega
theorem ER (xs:aW) (h:xs.length≤1048576):∃n:Nat,gT xs=some (((n:Nat):Int),())∧j5 xs=some (((n:Nat):Int),())∧Mn xs n:=by
 obtain ⟨e,f,h1,h2,n,h3⟩:∃e f,aF o7 (xs,(0:Int),(0:Int),())=some e∧aF pb (xs,(0:Int),())=some f∧∃n:Nat,(e=.inl (((n:Nat):Int),())∨e=.inr (((n:Nat):Int),()))∧f=.inr (((n:Nat):Int),())∧Mn xs n:=by
  refine nm xs.length (fun k x y=>x=(xs,((k:Nat):Int),((k:Nat):Int),())∧y=(xs,((k:Nat):Int),())∧∀i,i<k→(dL xs ((i+1:Nat):Int)).isSome=true) _ ?_ ⟨rfl,rfl,fun i hi=>by omega⟩
  rintro k x y hk ⟨rfl,rfl,mI⟩
  simp only [o7,yO,pb,yQ,aE (show k<4611686018427387904 by omega),td xs _ h,tf xs _ h,Option.bind_some]
  by_cases cA:k<xs.length
  ·rw [az cA]
   cases hq:dL xs ((k+1:Nat):Int) with
   |none=>exact .inl ⟨.inr (((k:Nat):Int),()),.inr (((k:Nat):Int),()),rfl,rfl,k,.inr rfl,rfl,hk,mI,hq⟩
   |some r=>
    refine .inr ⟨cA,_,_,rfl,rfl,rfl,rfl,fun i hi => ?_⟩
    by_cases TI:i<k
    ·exact mI i TI
    ·have:i=k:=by omega
     subst this;rw [hq];rfl
  ·have:k=xs.length:=by omega
   subst this;have hq:=Tm mI;rw [aD,hq];exact .inl ⟨.inl (((xs.length:Nat):Int),()),.inr (((xs.length:Nat):Int),()),rfl,rfl,xs.length,.inl rfl,rfl,hk,mI,hq⟩
 obtain ⟨h3,rfl,h4⟩:=h3;unfold gT j5;rw [h1,h2];refine ⟨n,?_,rfl,h4⟩;rcases h3 with rfl | rfl<;>rfl
end Go.TM
set_option linter.unusedSimpArgs false
set_option linter.unusedVariables false
namespace Go.TM
open Go
end Go.TM
set_option linter.unusedSimpArgs false
set_option linter.unusedVariables false
namespace Go.TM
open Go
theorem Tn (xs:List (Int×Unit)) (d:Int) (h:xs.length≤1048576):fO xs d=some (decide ((d,())∈xs),()):=by
 have hl:=ug (round:=cO) (n:=xs.length) (fun k=>(xs,d,((k:Nat):Int),())) (fun k=>some (if (d,())∈xs.drop k then .inr (true,()) else .inl ()))
  ⟨.inl (),by simp only [cO,iR,aD,cond_false],by rw [List.drop_length];rfl⟩ (fun k hk=>by
   rw [List.drop_eq_getElem_cons hk];simp only [cO,iR,az hk,aw,cond_true,aC,List.getElem?_eq_getElem hk,Option.bind_some,aE (show k<4611686018427387904 by omega)]
   by_cases e:xs[k].1=d
   ·rw [aj e];exact .inl ⟨_,rfl,by rw [if_pos (List.mem_cons.2 (.inl (by rw [←e])))]⟩
   ·rw [aq e];refine .inr ⟨rfl,?_⟩;have:((d,())∈xs[k]::xs.drop (k+1))↔((d,())∈xs.drop (k+1)):=by
     rw [List.mem_cons];exact ⟨fun h=>h.resolve_left (fun q=>e (by rw [←q])),.inr⟩
    by_cases q:(d,())∈xs.drop (k+1)
    ·rw [if_pos q,if_pos (this.2 q)]
    ·rw [if_neg q,if_neg (fun z=>q (this.1 z))]) 0 (Nat.zero_le _)
 unfold fO;have hl:aF cO (xs,d,(0:Int),())=_:=hl;rw [hl,List.drop_zero]
 by_cases q:(d,())∈xs
 ·rw [if_pos q,aj q];rfl
 ·rw [if_neg q,aq q];rfl
end Go.TM
set_option linter.unusedSimpArgs false
set_option linter.unusedVariables false
namespace Go.TM
open Go
def wx (l:List (Int×Unit)) (n:Nat):Prop:=∀j (h:j<l.length),j<n→(decide (1≤l[j].1)&&decide (l[j].1≤2))=true
def jd (l:List (ByteArray×Unit)) (n:Nat):Prop:=∀j (h:j<l.length),j<n→ByteArray.size l[j].1≤60
def Rf (lv:List (Int×Unit)) (tx:List (ByteArray×Unit)):Sum (List (Int×Unit)×List (ByteArray×Unit)×Unit) (Bool×Unit)→Prop
 |.inl y=>y=(lv,tx,())∧wx lv (min lv.length tx.length)∧jd tx (min lv.length tx.length)
 |.inr b=>b.1=false∧¬(wx lv (min lv.length tx.length)∧jd tx (min lv.length tx.length))
theorem ES (lv:List (Int×Unit)) (tx:List (ByteArray×Unit)) (h1:lv.length≤1048576) (h2:tx.length≤1048576):∃b,oZ lv tx=some (b,())∧(b=true↔tx.length≤20∧lv.length=tx.length∧wx lv lv.length∧jd tx tx.length):=by
 obtain ⟨e,he,hq⟩:=cL (round:=gC) (x:=(lv,tx,((0:Nat):Int),())) (min lv.length tx.length) (fun k x=>x=(lv,tx,((k:Nat):Int),())∧wx lv k∧jd tx k) (Rf lv tx) (by
   rintro x ⟨rfl,g1,g2⟩
   refine ⟨.inl (lv,tx,()),?_,rfl,g1,g2⟩
   by_cases hb:min lv.length tx.length<tx.length
   ·have e:min lv.length tx.length=lv.length:=by omega
    simp only [gC,lA,az hb,cond_true];rw [e,aD];rfl
   ·have e:min lv.length tx.length=tx.length:=by omega
    simp only [gC,lA];rw [e,aD];rfl) (by
   rintro k x hk ⟨rfl,g1,g2⟩
   have hl:k<lv.length:=by omega
   have ht:k<tx.length:=by omega
   simp only [gC,lA,az hl,az ht,aw,cond_true,aC,List.getElem?_eq_getElem hl,List.getElem?_eq_getElem ht,Option.bind_some,sv,aE (show k<4611686018427387904 by omega)]
   cases hlv:(decide (1≤lv[k].1)&&decide (lv[k].1≤2))
   ·refine .inl ⟨.inr (false,()),rfl,rfl,fun hn => ?_⟩;have:=hn.1 k hl (by omega);rw [hlv] at this
    cases this
   ·by_cases hs:(60:Int)<((ByteArray.size tx[k].1:Nat):Int)
    ·rw [aj hs];refine .inl ⟨.inr (false,()),rfl,rfl,fun hn => ?_⟩;have:=hn.2 k ht (by omega);omega
    ·rw [aq hs];refine .inr ⟨_,rfl,rfl,fun j hj Bs => ?_,fun j hj Bs => ?_⟩
     ·by_cases e:j<k
      ·exact g1 j hj e
      ·have:j=k:=by omega
       subst this;exact hlv
     ·by_cases e:j<k
      ·exact g2 j hj e
      ·have:j=k:=by omega
       subst this;omega) ⟨rfl,fun j _ h=>by omega,fun j _ h=>by omega⟩
 unfold oZ;rw [show (0:Int)=((0:Nat):Int) from rfl,he]
 cases e with
 |inr e=>
  obtain ⟨q1,q2⟩:=hq;refine ⟨false,by rw [←q1];rfl,⟨(fun h=>by cases h),fun ⟨w1,w2,w3,w4⟩ => ?_⟩⟩;exact absurd ⟨fun j hj hm=>w3 j hj hj,fun j hj hm=>w4 j hj hj⟩ q2
 |inl e=>
  obtain ⟨q1,q2,q3⟩:=hq;subst q1;simp only [cW]
  by_cases w1:((List.length tx:Nat):Int)≤20
  ·rw [aj w1];refine ⟨_,rfl,?_⟩;rw [decide_eq_true_eq]
   constructor
   ·intro w2;have w2:lv.length=tx.length:=by omega
    exact ⟨by omega,w2,fun j hj _=>q2 j hj (by omega),fun j hj _=>q3 j hj (by omega)⟩
   ·rintro ⟨_,w2,_⟩
    rw [w2]
  ·rw [aq w1];exact ⟨false,rfl,⟨(fun h=>by cases h),fun ⟨w2,_⟩=>by omega⟩⟩
theorem Ld (tx:List (ByteArray×Unit)) (h2:tx.length≤1048576):∃b,pa tx=some (b,())∧(b=true↔jd tx tx.length):=by
 obtain ⟨e,he,hq⟩:=cL (round:=jB) (x:=(tx,((List.length tx:Nat):Int),((0:Nat):Int),())) tx.length (fun k x=>x=(tx,((List.length tx:Nat):Int),((k:Nat):Int),())∧jd tx k) (fun e=>(e=.inl ()∧jd tx tx.length)∨(e=.inr (false,())∧¬jd tx tx.length)) (by
   rintro x ⟨rfl,g2⟩
   exact ⟨.inl (),by simp only [jB,oF,aD,cond_false],.inl ⟨rfl,g2⟩⟩) (by
   rintro k x hk ⟨rfl,g2⟩
   simp only [jB,oF,az hk,aw,cond_true,aC,List.getElem?_eq_getElem hk,Option.bind_some,aE (show k<4611686018427387904 by omega)]
   by_cases hs:(60:Int)<((ByteArray.size tx[k].1:Nat):Int)
   ·rw [aj hs];refine .inl ⟨.inr (false,()),rfl,.inr ⟨rfl,fun hn => ?_⟩⟩;have:=hn k hk hk;omega
   ·rw [aq hs];refine .inr ⟨_,rfl,rfl,fun j hj Bs => ?_⟩
    by_cases e:j<k
    ·exact g2 j hj e
    ·have:j=k:=by omega
     subst this;omega) ⟨rfl,fun j _ h=>by omega⟩
 unfold pa;rw [show (0:Int)=((0:Nat):Int) from rfl,he];rcases hq with ⟨rfl,q⟩ | ⟨rfl,q⟩
 ·exact ⟨true,rfl,⟨fun _=>q,fun _=>rfl⟩⟩
 ·exact ⟨false,rfl,⟨(fun h=>by cases h),fun h=>absurd h q⟩⟩
theorem ET (c0 c1 c2 c3 c4:Int) (xs:List (Int×Unit)):∃b,eo c0 c1 c2 c3 c4 xs=some (b,())∧cY c0 c1 c2 c3 c4 xs=some (b,()):=by
 unfold eo nz cY
 cases decide (c0=0)
 ·exact ⟨_,rfl,rfl⟩
 cases decide (c1=0)
 ·exact ⟨_,rfl,rfl⟩
 cases decide (c2=0)
 ·exact ⟨_,rfl,rfl⟩
 cases decide (c3=0)
 ·exact ⟨_,rfl,rfl⟩
 cases decide (c4=0)
 ·exact ⟨_,rfl,rfl⟩
 cases xs with
 |nil=>
  have hl:=bI (round:=fV) (e:=.inl ()) 0 (fun k=>(([]:List (Int×Unit)),([]:List (Int×Unit)),((k:Nat):Int),())) (by
   simp only [fV,qz,List.length_nil,aD,cond_false]) (fun k hk=>by omega)
  have hl:aF fV (([]:List (Int×Unit)),([]:List (Int×Unit)),(0:Int),())=_:=hl;refine ⟨true,?_,rfl⟩;simp only [cond_true,lB,List.length_nil,decide_true,Bool.not_true,cond_false,hl,cW,Option.bind_some]
 |cons x xs=>
  have e:decide (((List.length (x::xs):Nat):Int)=(0:Int))=false:=aq (by rw [List.length_cons];omega);have e2:decide (((List.length (x::xs):Nat):Int)=((List.length ([]:List (Int×Unit)):Nat):Int))=false:=e;refine ⟨false,?_,?_⟩
  ·simp only [cond_true,lB,e2,Bool.not_false,Option.bind_some]
  ·simp only [cond_true,e]
abbrev Uw:Type:=Int×Int×(List (Int×Unit))×aW×(List (Int×Unit))×(List (ByteArray×Unit))×Int×Int×Int×Int×Int×Int×Int×Int×Int×(List (Int×Unit))×Unit
def Zs (m:Uw) (lv:List (Int×Unit)):Sum Uw (Bool×Unit)→Prop
 |.inl y=>y=m∧wx lv lv.length
 |.inr b=>b.1=false∧¬wx lv lv.length
theorem Jk (ft:Int) (fB:Int) (ek:List (Int×Unit)) (eb:List (Int×Int×Int×ByteArray×Unit)) (dH:List (Int×Unit)) (ew:List (ByteArray×Unit)) (gz:Int) (gZ:Int) (hJ:Int) (hM:Int) (db:Int) (de:Int) (dg:Int) (dh:Int) (di:Int) (cI:List (Int×Unit))
  (h0:(List.length ek+wl jN ek)+(List.length eb+wl bP eb)+(List.length dH+wl jN dH)+(List.length ew+wl FG ew)+(List.length cI+wl jN cI)≤1048576):∃o0,gk ft fB ek eb dH ew gz gZ hJ hM db de dg dh di cI=some (o0,())∧jW ft fB ek eb dH ew gz gZ hJ hM db de dg dh di cI=some (o0,()):=by
 obtain ⟨b1,r1,r2,_⟩:=Ch fB ek (by omega);obtain ⟨b2,c1,c2⟩:=yR ft ek (by omega);obtain ⟨b3,i1,i2⟩:=EO eb (by omega);obtain ⟨b4,t1,t2⟩:=ES dH ew (by omega) (by omega);obtain ⟨b5,s1,s2⟩:=Ld ew (by omega);obtain ⟨n,a1,a2,_⟩:=ER eb (by omega);obtain ⟨b6,z1,z2⟩:=ET db de dg dh di cI;obtain ⟨b7,k1,k2,_⟩:=wc db de dg dh di cI (by omega);obtain ⟨e,he,hq⟩:=cL (round:=jD) (x:=(ft,fB,ek,eb,dH,ew,gz,gZ,hJ,hM,db,de,dg,dh,di,cI,dH,((List.length dH:Nat):Int),((0:Nat):Int),())) dH.length
  (fun k x=>x=(ft,fB,ek,eb,dH,ew,gz,gZ,hJ,hM,db,de,dg,dh,di,cI,dH,((List.length dH:Nat):Int),((k:Nat):Int),())∧wx dH k)
  (Zs (ft,fB,ek,eb,dH,ew,gz,gZ,hJ,hM,db,de,dg,dh,di,cI,()) dH) (by
   rintro x ⟨rfl,g⟩
   exact ⟨.inl _,by simp only [jD,sg,aD,cond_false],rfl,g⟩) (by
   rintro k x hk ⟨rfl,g⟩
   simp only [jD,sg,az hk,aw,cond_true,aC,List.getElem?_eq_getElem hk,Option.bind_some,EN,aE (show k<4611686018427387904 by omega)]
   cases hlv:(decide (1≤dH[k].1)&&decide (dH[k].1≤2))
   ·refine .inl ⟨.inr (false,()),rfl,rfl,fun hn => ?_⟩;have:=hn k hk hk;rw [hlv] at this
    cases this
   ·refine .inr ⟨_,rfl,rfl,fun j hj Bs => ?_⟩
    by_cases e:j<k
    ·exact g j hj e
    ·have:j=k:=by omega
     subst this;exact hlv) ⟨rfl,fun j _ h=>by omega⟩
 have he:aF jD (ft,fB,ek,eb,dH,ew,gz,gZ,hJ,hM,db,de,dg,dh,di,cI,dH,((List.length dH:Nat):Int),(0:Int),())=some e:=he;unfold gk jW;simp only [r1,r2,c1,c2,i1,i2,t1,s1,Option.bind_some,he]
 cases b1
 ·cases b2
  ·exact ⟨_,rfl,rfl⟩
  ·exact ⟨_,rfl,rfl⟩
 cases b2
 ·exact ⟨_,rfl,rfl⟩
 cases b3
 ·exact ⟨_,rfl,rfl⟩
 simp only [Bool.not_true,cond_false]
 by_cases w1:(20:Int)<((List.length ew:Nat):Int)
 ·have:b4=false:=by
   cases b4
   ·rfl
   ·have:=(t2.1 rfl).1;omega
  subst this;rw [aj w1];exact ⟨_,rfl,rfl⟩
 rw [aq w1]
 cases b5
 ·have:b4=false:=by
   cases b4
   ·rfl
   ·have:=s2.2 (t2.1 rfl).2.2.2;cases this
  subst this;exact ⟨_,rfl,rfl⟩
 by_cases w2:((List.length dH:Nat):Int)=((List.length ew:Nat):Int)
 case neg=>
  have:b4=false:=by
   cases b4
   ·rfl
   ·have:=(t2.1 rfl).2.1;omega
  subst this;rw [aq w2];exact ⟨_,rfl,rfl⟩
 rw [aj w2]
 cases e with
 |inr e=>
  obtain ⟨q1,q2⟩:=hq;have:b4=false:=by
   cases b4
   ·rfl
   ·exact absurd (t2.1 rfl).2.2.1 q2
  subst this;refine ⟨false,rfl,?_⟩;show some (e.1,())=_;rw [q1]
 |inl e=>
  obtain ⟨q1,q2⟩:=hq;subst q1;have:b4=true:=t2.2 ⟨by omega,by omega,q2,s2.1 rfl⟩;subst this;simp only [Bool.not_true,cond_false,cW,a1,a2,z1,z2,k1,k2,sv,wa,Option.bind_some]
  cases (decide (0≤gz)&&decide (gz≤1000000000))
  ·exact ⟨_,rfl,rfl⟩
  cases (decide (0≤gZ)&&decide (gZ≤60))
  ·exact ⟨_,rfl,rfl⟩
  cases (decide (0≤hJ)&&decide (hJ≤((n:Nat):Int)))
  ·exact ⟨_,rfl,rfl⟩
  cases (decide (0≤hM)&&decide (hM≤((n:Nat):Int)))
  ·exact ⟨_,rfl,rfl⟩
  cases b6
  ·exact ⟨_,rfl,rfl⟩
  ·exact ⟨_,rfl,rfl⟩
end Go.TM
set_option linter.unusedSimpArgs false
set_option linter.unusedVariables false
namespace Go.TM
open Go
def nW (r:dv):Prop:=(1≤r.1∧r.1≤60)∧(1≤r.2.1∧r.2.1≤5)∧(1≤r.2.2.1∧r.2.2.1≤2)∧ByteArray.size r.2.2.2.1≤60
def ik (xs:aW) (n:Nat):Prop:=∀k (h:k<xs.length),k<n→nW xs[k]∧∀h0:0<k,xs[k-1].1<xs[k].1
theorem Jl (a b c:Int) (s:ByteArray):∃x,iJ a b c s=some (x,())∧jV a b c s=some (x,())∧(x=true↔nW (a,b,c,s,())):=by
 have hi:∀ {p q r:Prop} [Decidable p] [Decidable q],(decide p&&decide q)=false→¬((p∧q)∧r):=by
  intro p q r _ _ h ⟨h1,_⟩;rw [decide_eq_true h1.1,decide_eq_true h1.2] at h
  cases h
 unfold iJ jV nW;simp only [sv,wa,ra,EN,Option.bind_some]
 cases h1:(decide (1≤a)&&decide (a≤60))
 ·exact ⟨false,rfl,rfl,⟨fun h=>(by cases h),fun h=>absurd h (hi h1)⟩⟩
 rw [Bool.and_eq_true,decide_eq_true_eq,decide_eq_true_eq] at h1
 cases h2:(decide (1≤b)&&decide (b≤5))
 ·exact ⟨false,rfl,rfl,⟨fun h=>(by cases h),fun h=>absurd h.2 (hi h2)⟩⟩
 rw [Bool.and_eq_true,decide_eq_true_eq,decide_eq_true_eq] at h2
 cases h3:(decide (1≤c)&&decide (c≤2))
 ·exact ⟨false,rfl,rfl,⟨fun h=>(by cases h),fun h=>absurd h.2.2 (hi h3)⟩⟩
 rw [Bool.and_eq_true,decide_eq_true_eq,decide_eq_true_eq] at h3;refine ⟨_,rfl,rfl,?_⟩;rw [decide_eq_true_eq];exact ⟨fun h=>⟨h1,h2,h3,by omega⟩,fun h=>by have:=h.2.2.2;omega⟩
theorem Ox (xs:aW) (h:xs.length≤1048576):∃b,ga xs=some (b,())∧j4 xs=some (b,())∧(b=true↔ik xs xs.length):=by
 obtain ⟨b,h1,h2⟩:=EO xs h;refine ⟨b,h1,h2,?_⟩;obtain ⟨e,he,hq⟩:=cL (round:=dS) (x:=(xs,((0:Nat):Int),())) xs.length (fun k x=>x=(xs,((k:Nat):Int),())∧ik xs k) (fun e=>(e=.inl ()∧ik xs xs.length)∨(e=.inr (false,())∧¬ik xs xs.length)) (by
   rintro x ⟨rfl,g⟩
   exact ⟨.inl (),by simp only [dS,kg,aD,cond_false],.inl ⟨rfl,g⟩⟩) (by
   rintro k x hk ⟨rfl,g⟩
   obtain ⟨b,r1,_,r3⟩:=Jl xs[k].1 xs[k].2.1 xs[k].2.2.1 xs[k].2.2.2.1;have r3:b=true↔nW xs[k]:=r3;simp only [dS,kg,az hk,aw,cond_true,aC,List.getElem?_eq_getElem hk,Option.bind_some,r1,aE (show k<4611686018427387904 by omega)];have more:nW xs[k]→(∀h0:0<k,xs[k-1].1<xs[k].1)→ik xs (k+1):=fun q1 q2 j hj Bs=>by
    by_cases e:j<k
    ·exact g j hj e
    ·have:j=k:=by omega
     subst this;exact ⟨q1,q2⟩
   cases b
   ·exact .inl ⟨.inr (false,()),rfl,.inr ⟨rfl,fun hn=>absurd (r3.2 (hn k hk hk).1) (by simp)⟩⟩
   ·have q1:=r3.1 rfl
    by_cases h0:0<k
    ·have hp:k-1<xs.length:=by omega
     rw [rb h0 (by omega)];simp only [aj (show (0:Int)<((k:Nat):Int) by omega),Bool.not_true,cond_false,cond_true,aw,aC,List.getElem?_eq_getElem hp,Option.bind_some]
     by_cases hs:xs[k].1≤xs[k-1].1
     ·rw [aj hs];refine .inl ⟨.inr (false,()),rfl,.inr ⟨rfl,fun hn => ?_⟩⟩;have:=(hn k hk hk).2 h0;omega
     ·rw [aq hs];exact .inr ⟨_,rfl,rfl,more q1 (fun _=>by omega)⟩
    ·have:k=0:=by omega
     subst this;simp only [aq (show ¬(0:Int)<((0:Nat):Int) by omega),Bool.not_true,cond_false];exact .inr ⟨_,rfl,rfl,more q1 (fun h=>absurd h (by omega))⟩) ⟨rfl,fun j _ h=>by omega⟩
 have he:aF dS (xs,(0:Int),())=some e:=he;unfold ga at h1;rw [he] at h1;rcases hq with ⟨rfl,g⟩ | ⟨rfl,g⟩
 ·injection h1 with h1;injection h1 with h1 _;exact ⟨fun _=>g,fun _=>h1.symm⟩
 ·injection h1 with h1;injection h1 with h1 _;subst h1;exact ⟨fun h=>(by cases h),fun h=>absurd h g⟩
theorem GP {α:Type} (f:α→Nat) (c:Nat):(xs:List α)→(∀x∈xs,f x≤c)→wl f xs≤c*xs.length
 | [],_=>Nat.zero_le _
 |x::xs,h=>by
  rw [sU,List.length_cons,Nat.mul_succ];have:=GP f c xs (fun y hy=>h y (List.mem_cons_of_mem _ hy));have:=h x List.mem_cons_self;omega
theorem GQ (xs:aW) (h:ik xs xs.length):∀k (hk:k<xs.length),((k+1:Nat):Int)≤xs[k].1
 |0,hk=>by have:=(h 0 hk hk).1.1.1;omega
 |k+1,hk=>by
  have h1:=GQ xs h k (by omega);have h2:=(h (k+1) hk hk).2 (by omega);have h2:xs[k].1<xs[k+1].1:=h2;omega
theorem cQ (xs:aW) (h:ik xs xs.length):xs.length≤60∧wl bP xs≤3600:=by
 have h1:xs.length≤60:=by
  by_cases h0:0<xs.length
  ·have:=GQ xs h (xs.length-1) (by omega);have:=(h (xs.length-1) (by omega) (by omega)).1.1.2;omega
  ·omega
 refine ⟨h1,Nat.le_trans (GP bP 60 xs fun x hx => ?_) (by omega)⟩;obtain ⟨k,hk,rfl⟩:=List.mem_iff_getElem.1 hx;exact (h k hk hk).1.2.2.2
theorem CW (xs:List (ByteArray×Unit)) (h:jd xs xs.length):wl FG xs≤60*xs.length:=by
 refine GP FG 60 xs fun x hx => ?_
 obtain ⟨k,hk,rfl⟩:=List.mem_iff_getElem.1 hx;exact h k hk hk
structure Ux (c0 c1:Int) (c2:List (Int×Unit)) (c3:aW) (c4:List (Int×Unit)) (c5:List (ByteArray×Unit)) (c6 c7 c8 c9:Int) (c15:List (Int×Unit)):Prop where
 ring:1≤c2.length∧c2.length≤5
 items:ik c3 c3.length
 texts:c5.length≤20∧c4.length=c5.length
 lev:wx c4 c4.length
 short:jd c5 c5.length
 round:0≤c6∧c6≤1000000000
 seen:0≤c7∧c7≤60
 aru:∃n:Nat,gT c3=some (((n:Nat):Int),())∧j5 c3=some (((n:Nat):Int),())∧Mn c3 n∧(0≤c8∧c8≤((n:Nat):Int))∧0≤c9∧c9≤((n:Nat):Int)
 lR:c15.length≤20
theorem Ac {p q:Prop} [Decidable p] [Decidable q] (h:(decide p&&decide q)=true):p∧q:=by
 rw [Bool.and_eq_true,decide_eq_true_eq,decide_eq_true_eq] at h;exact h
theorem Ux.small {c0 c1:Int} {c2:List (Int×Unit)} {c3:aW} {c4:List (Int×Unit)} {c5:List (ByteArray×Unit)} {c6 c7 c8 c9:Int} {c15:List (Int×Unit)} (h:Ux c0 c1 c2 c3 c4 c5 c6 c7 c8 c9 c15) :
  (List.length c2+wl jN c2)+(List.length c3+wl bP c3)+(List.length c4+wl jN c4)+(List.length c5+wl FG c5)+(List.length c15+wl jN c15)≤5000:=by
 have h1:=cQ c3 h.items;have h2:=CW c5 h.short;have h3:=h.texts;have h4:=h.ring;have h5:=h.lR;rw [qG jN (fun _=>rfl),qG jN (fun _=>rfl),qG jN (fun _=>rfl)];omega
theorem CX (xs:aW) (h:xs.length≤1048576):bo xs=some (xs,()):=by
 unfold bo;rw [aQ (show (0+xs.length)*40≤lim by unfold lim;omega)];rfl
theorem HE (xs:List (ByteArray×Unit)) (h:xs.length≤1048576):jc xs=some (xs,()):=by
 unfold jc;rw [aQ (show (0+xs.length)*16≤lim by unfold lim;omega)];rfl
theorem mY (ft:Int) (fB:Int) (ek:List (Int×Unit)) (eb:aW) (dH:List (Int×Unit)) (ew:List (ByteArray×Unit)) (gz:Int) (gZ:Int) (hJ:Int) (hM:Int) (db:Int) (de:Int) (dg:Int) (dh:Int) (di:Int) (cI:List (Int×Unit))
  (h0:(List.length ek+wl jN ek)+(List.length eb+wl bP eb)+(List.length dH+wl jN dH)+(List.length ew+wl FG ew)+(List.length cI+wl jN cI)≤1048576) :
  j3 ft fB ek eb dH ew gz gZ hJ hM db de dg dh di cI=some (ft,fB,ek,eb,dH,ew,gz,gZ,hJ,hM,db,de,dg,dh,di,cI,())∧
  iS ft fB ek eb dH ew gz gZ hJ hM db de dg dh di cI=some (ft,fB,ek,eb,dH,ew,gz,gZ,hJ,hM,db,de,dg,dh,di,cI,()):=by
 obtain ⟨t1,t2⟩:=gh db de dg dh di cI (by omega)
 constructor
 ·unfold j3;rw [aQ (show (0+ek.length)*8≤lim by unfold lim;omega),aQ (show (0+eb.length)*40≤lim by unfold lim;omega),aQ (show (0+dH.length)*8≤lim by unfold lim;omega),aQ (show (0+ew.length)*16≤lim by unfold lim;omega),t1];rfl
 ·unfold iS gm;rw [re ek (by omega),CX eb (by omega),re dH (by omega),HE ew (by omega),t2];rfl
end Go.TM
set_option linter.unusedSimpArgs false
set_option linter.unusedVariables false
namespace Go.TM
open Go
abbrev km:Type:=List (Int×Unit)
abbrev oN:Type:=Int×Int×Int×Int×Int×km×Unit
abbrev eZ:Type:=Int×Int×km×aW×km×(List (ByteArray×Unit))×Int×Int×Int×Int×Int×Int×Int×Int×Int×km×Unit
def Le (xs:km) (n:Nat):Prop:=∀k (h:k<xs.length),k<n→(1≤xs[k].1∧xs[k].1≤5)∧∀h0:0<k,xs[k-1].1<xs[k].1
def EU (c:Int) (xs:km):Prop:=(1≤c∧c≤9)∧(1≤xs.length∧xs.length≤5)∧Le xs xs.length
theorem Rg (c:Int) (xs:km) (h:xs.length≤1048576):∃b,gj c xs=some (b,())∧jU c xs=some (b,())∧(b=true↔EU c xs):=by
 obtain ⟨b,h1,h2,_⟩:=Ch c xs h;refine ⟨b,h1,h2,?_⟩;obtain ⟨e,he,hq⟩:=cL (round:=ey) (x:=(c,xs,((0:Nat):Int),())) xs.length (fun k x=>x=(c,xs,((k:Nat):Int),())∧Le xs k) (fun e=>(e=.inl ()∧Le xs xs.length)∨(e=.inr (false,())∧¬Le xs xs.length)) (by
   rintro x ⟨rfl,g⟩
   exact ⟨.inl (),by simp only [ey,kX,aD,cond_false],.inl ⟨rfl,g⟩⟩) (by
   rintro k x hk ⟨rfl,g⟩
   simp only [ey,kX,az hk,aw,cond_true,aC,List.getElem?_eq_getElem hk,Option.bind_some,sv,aE (show k<4611686018427387904 by omega)];have more:(1≤xs[k].1∧xs[k].1≤5)→(∀h0:0<k,xs[k-1].1<xs[k].1)→Le xs (k+1):=fun q1 q2 j hj Bs=>by
    by_cases e:j<k
    ·exact g j hj e
    ·have:j=k:=by omega
     subst this;exact ⟨q1,q2⟩
   cases hb:(decide (1≤xs[k].1)&&decide (xs[k].1≤5))
   ·exact .inl ⟨.inr (false,()),rfl,.inr ⟨rfl,fun hn=>by
     have:=(hn k hk hk).1;rw [aj this.1,aj this.2] at hb
     cases hb⟩⟩
   ·have q1:=Ac hb
    by_cases h0:0<k
    ·have hp:k-1<xs.length:=by omega
     rw [rb h0 (by omega)];simp only [aj (show (0:Int)<((k:Nat):Int) by omega),Bool.not_true,cond_false,cond_true,aw,aC,List.getElem?_eq_getElem hp,Option.bind_some]
     by_cases hs:xs[k].1≤xs[k-1].1
     ·rw [aj hs];refine .inl ⟨.inr (false,()),rfl,.inr ⟨rfl,fun hn => ?_⟩⟩;have:=(hn k hk hk).2 h0;omega
     ·rw [aq hs];exact .inr ⟨_,rfl,rfl,more q1 (fun _=>by omega)⟩
    ·have:k=0:=by omega
     subst this;simp only [aq (show ¬(0:Int)<((0:Nat):Int) by omega),Bool.not_true,cond_false];exact .inr ⟨_,rfl,rfl,more q1 (fun h=>absurd h (by omega))⟩) ⟨rfl,fun j _ h=>by omega⟩
 have he:aF ey (c,xs,(0:Int),())=some e:=he;unfold gj at h1;simp only [sv,Option.bind_some,he] at h1;unfold EU
 cases a1:(decide (1≤c)&&decide (c≤9))
 ·rw [a1] at h1;injection h1 with h1;injection h1 with h1 _;subst h1;refine ⟨fun h=>(by cases h),fun h => ?_⟩;rw [aj h.1.1,aj h.1.2] at a1
  cases a1
 cases a2:(decide (1≤((List.length xs:Nat):Int))&&decide (((List.length xs:Nat):Int)≤5))
 ·rw [a1,a2] at h1;injection h1 with h1;injection h1 with h1 _;subst h1;refine ⟨fun h=>(by cases h),fun h => ?_⟩;rw [aj (show (1:Int)≤((List.length xs:Nat):Int) by omega),aj (show ((List.length xs:Nat):Int)≤5 by omega)] at a2
  cases a2
 rw [a1,a2] at h1;have a1:=Ac a1;have a2:=Ac a2;rcases hq with ⟨rfl,g⟩ | ⟨rfl,g⟩
 ·injection h1 with h1;injection h1 with h1 _;exact ⟨fun _=>⟨a1,by omega,g⟩,fun _=>h1.symm⟩
 ·injection h1 with h1;injection h1 with h1 _;subst h1;exact ⟨fun h=>(by cases h),fun h=>absurd h.2.2 g⟩
noncomputable def CY (c:Int) (xs:km):Bool:=match gj c xs with | some x=>x.1 | none=>false
theorem HF (c:Int) (xs:km) (h:xs.length≤1048576):gj c xs=some (CY c xs,())∧jU c xs=some (CY c xs,())∧(CY c xs=true↔EU c xs):=by
 obtain ⟨b,h1,h2,h3⟩:=Rg c xs h;have:CY c xs=b:=by unfold CY;rw [h1]
 rw [this];exact ⟨h1,h2,h3⟩
noncomputable def sw (xs:aW):Bool:=match ga xs with | some x=>x.1 | none=>false
theorem xN (xs:aW) (h:xs.length≤1048576):ga xs=some (sw xs,())∧j4 xs=some (sw xs,())∧(sw xs=true↔ik xs xs.length):=by
 obtain ⟨b,h1,h2,h3⟩:=Ox xs h;have:sw xs=b:=by unfold sw;rw [h1]
 rw [this];exact ⟨h1,h2,h3⟩
noncomputable def yS (r:dv):Bool:=match iJ r.1 r.2.1 r.2.2.1 r.2.2.2.1 with | some x=>x.1 | none=>false
theorem Bi (r:dv):iJ r.1 r.2.1 r.2.2.1 r.2.2.2.1=some (yS r,())∧jV r.1 r.2.1 r.2.2.1 r.2.2.2.1=some (yS r,())∧(yS r=true↔nW r):=by
 obtain ⟨b,h1,h2,h3⟩:=Jl r.1 r.2.1 r.2.2.1 r.2.2.2.1;have:yS r=b:=by unfold yS;rw [h1]
 rw [this];exact ⟨h1,h2,h3⟩
theorem Dq {p q:Prop} [Decidable p] [Decidable q]:(decide p&&decide q)=true↔p∧q:=by
 rw [Bool.and_eq_true,decide_eq_true_eq,decide_eq_true_eq]
theorem Oy (c0 c1 c2 c3 c4:Int) (xs:km):∃b,eo c0 c1 c2 c3 c4 xs=some (b,())∧cY c0 c1 c2 c3 c4 xs=some (b,())∧(b=true↔c0=0∧c1=0∧c2=0∧c3=0∧c4=0∧xs=[]):=by
 obtain ⟨b,h1,h2⟩:=ET c0 c1 c2 c3 c4 xs;refine ⟨b,h1,h2,?_⟩;unfold cY at h2;have hl:((List.length xs:Nat):Int)=0↔xs=[]:=by rw [←List.length_eq_zero_iff];omega
 by_cases e0:c0=0
 case neg=>simp [aq e0] at h2;subst h2;simp [e0]
 by_cases e1:c1=0
 case neg=>simp [aj e0,aq e1] at h2;subst h2;simp [e1]
 by_cases e2:c2=0
 case neg=>simp [aj e0,aj e1,aq e2] at h2;subst h2;simp [e2]
 by_cases e3:c3=0
 case neg=>simp [aj e0,aj e1,aj e2,aq e3] at h2;subst h2;simp [e3]
 by_cases e4:c4=0
 case neg=>simp [aj e0,aj e1,aj e2,aj e3,aq e4] at h2;subst h2;simp [e4]
 by_cases e5:((List.length xs:Nat):Int)=0
 ·rw [aj e0,aj e1,aj e2,aj e3,aj e4,aj e5] at h2;injection h2 with h2;injection h2 with h2 _;exact ⟨fun _=>⟨e0,e1,e2,e3,e4,hl.1 e5⟩,fun _=>h2.symm⟩
 ·rw [aj e0,aj e1,aj e2,aj e3,aj e4,aq e5] at h2;injection h2 with h2;injection h2 with h2 _;subst h2;exact ⟨fun h=>(by cases h),fun h=>absurd (hl.2 h.2.2.2.2.2) e5⟩
def Blank (t:oN):Prop:=t.1=0∧t.2.1=0∧t.2.2.1=0∧t.2.2.2.1=0∧t.2.2.2.2.1=0∧t.q.1=[]
noncomputable def qm (t:oN):Bool:=match eo t.1 t.2.1 t.2.2.1 t.2.2.2.1 t.2.2.2.2.1 t.q.1 with | some x=>x.1 | none=>false
theorem Bj (t:oN):eo t.1 t.2.1 t.2.2.1 t.2.2.2.1 t.2.2.2.2.1 t.q.1=some (qm t,())∧cY t.1 t.2.1 t.2.2.1 t.2.2.2.1 t.2.2.2.2.1 t.q.1=some (qm t,())∧(qm t=true↔Blank t):=by
 obtain ⟨b,h1,h2,h3⟩:=Oy t.1 t.2.1 t.2.2.1 t.2.2.2.1 t.2.2.2.2.1 t.q.1;have:qm t=b:=by unfold qm;rw [h1]
 rw [this];exact ⟨h1,h2,h3⟩
def FI (t:oN):Prop:=Zr t.1 t.2.1 t.2.2.1 t.2.2.2.1 t.2.2.2.2.1 t.q.1
noncomputable def FJ (t:oN):Bool:=match dF t.1 t.2.1 t.2.2.1 t.2.2.2.1 t.2.2.2.2.1 t.q.1 with | some x=>x.1 | none=>false
theorem Ci (t:oN) (h:t.q.1.length≤1048576):dF t.1 t.2.1 t.2.2.1 t.2.2.2.1 t.2.2.2.2.1 t.q.1=some (FJ t,())∧gd t.1 t.2.1 t.2.2.1 t.2.2.2.1 t.2.2.2.2.1 t.q.1=some (FJ t,())∧(FJ t=true↔FI t):=by
 obtain ⟨b,h1,h2,h3⟩:=GN t.1 t.2.1 t.2.2.1 t.2.2.2.1 t.2.2.2.2.1 t.q.1 h;have:FJ t=b:=by unfold FJ;rw [h1]
 rw [this];exact ⟨h1,h2,h3⟩
noncomputable def dw (xs:aW):Nat:=match gT xs with | some x=>x.1.toNat | none=>0
theorem Cj (xs:aW) (h:xs.length≤1048576):gT xs=some (((dw xs:Nat):Int),())∧j5 xs=some (((dw xs:Nat):Int),())∧Mn xs (dw xs):=by
 obtain ⟨n,h1,h2,h3⟩:=ER xs h;have:dw xs=n:=by unfold dw;rw [h1];rfl
 rw [this];exact ⟨h1,h2,h3⟩
structure sI (m:eZ):Prop where
 ring:EU m.2.1 m.2.2.1
 mem:(m.1,())∈m.2.2.1
 items:ik m.2.2.2.1 m.2.2.2.1.length
 texts:m.q.1.length≤20∧m.2.2.2.2.1.length=m.q.1.length
 lev:wx m.2.2.2.2.1 m.2.2.2.2.1.length
 short:jd m.q.1 m.q.1.length
 round:0≤m.q.2.1∧m.q.2.1≤1000000000
 seen:0≤m.q.2.2.1∧m.q.2.2.1≤60
 line:0≤m.q.2.2.2.1∧m.q.2.2.2.1≤((dw m.2.2.2.1:Nat):Int)
 heard:0≤m.q.2.2.2.2.1∧m.q.2.2.2.2.1≤((dw m.2.2.2.1:Nat):Int)
 last:Blank (m.q.q.1,m.q.q.2.1,m.q.q.2.2.1,m.q.q.2.2.2.1,m.q.q.2.2.2.2.1,m.q.q.q.1,())∨FI (m.q.q.1,m.q.q.2.1,m.q.q.2.2.1,m.q.q.2.2.2.1,m.q.q.2.2.2.2.1,m.q.q.q.1,())
def EV (m:eZ):Nat:=(List.length m.2.2.1+wl jN m.2.2.1)+(List.length m.2.2.2.1+wl bP m.2.2.2.1)+(List.length m.2.2.2.2.1+wl jN m.2.2.2.2.1)+(List.length m.q.1+wl FG m.q.1)+(List.length m.q.q.q.1+wl jN m.q.q.q.1)
noncomputable def xO (m:eZ):Bool:=match gk m.1 m.2.1 m.2.2.1 m.2.2.2.1 m.2.2.2.2.1 m.q.1 m.q.2.1 m.q.2.2.1 m.q.2.2.2.1 m.q.2.2.2.2.1 m.q.q.1 m.q.q.2.1 m.q.q.2.2.1 m.q.q.2.2.2.1 m.q.q.2.2.2.2.1 m.q.q.q.1 with | some x=>x.1 | none=>false
theorem xP (m:eZ) (h0:EV m≤1048576):gk m.1 m.2.1 m.2.2.1 m.2.2.2.1 m.2.2.2.2.1 m.q.1 m.q.2.1 m.q.2.2.1 m.q.2.2.2.1 m.q.2.2.2.2.1 m.q.q.1 m.q.q.2.1 m.q.q.2.2.1 m.q.q.2.2.2.1 m.q.q.2.2.2.2.1 m.q.q.q.1=some (xO m,())∧jW m.1 m.2.1 m.2.2.1 m.2.2.2.1 m.2.2.2.2.1 m.q.1 m.q.2.1 m.q.2.2.1 m.q.2.2.2.1 m.q.2.2.2.2.1 m.q.q.1 m.q.q.2.1 m.q.q.2.2.1 m.q.q.2.2.2.1 m.q.q.2.2.2.2.1 m.q.q.q.1=some (xO m,())∧(xO m=true↔sI m):=by
 obtain ⟨b,k1,k2⟩:=Jk m.1 m.2.1 m.2.2.1 m.2.2.2.1 m.2.2.2.2.1 m.q.1 m.q.2.1 m.q.2.2.1 m.q.2.2.2.1 m.q.2.2.2.2.1 m.q.q.1 m.q.q.2.1 m.q.q.2.2.1 m.q.q.2.2.2.1 m.q.q.2.2.2.2.1 m.q.q.q.1 h0;have hb:xO m=b:=by unfold xO;rw [k1]
 rw [hb];refine ⟨k1,k2,?_⟩;unfold EV at h0;obtain ⟨r1,_,r3⟩:=HF m.2.1 m.2.2.1 (by omega);have c1:=Tn m.2.2.1 m.1 (by omega);obtain ⟨i1,_,i3⟩:=xN m.2.2.2.1 (by omega);obtain ⟨b4,t1,t2⟩:=ES m.2.2.2.2.1 m.q.1 (by omega) (by omega);obtain ⟨a1,a2,a3⟩:=Cj m.2.2.2.1 (by omega);have z1:eo m.q.q.1 m.q.q.2.1 m.q.q.2.2.1 m.q.q.2.2.2.1 m.q.q.2.2.2.2.1 m.q.q.q.1=some (qm (m.q.q.1,m.q.q.2.1,m.q.q.2.2.1,m.q.q.2.2.2.1,m.q.q.2.2.2.2.1,m.q.q.q.1,()),()):=(Bj (m.q.q.1,m.q.q.2.1,m.q.q.2.2.1,m.q.q.2.2.2.1,m.q.q.2.2.2.2.1,m.q.q.q.1,())).1;have z3:=(Bj (m.q.q.1,m.q.q.2.1,m.q.q.2.2.1,m.q.q.2.2.2.1,m.q.q.2.2.2.2.1,m.q.q.q.1,())).2.2;have w1:dF m.q.q.1 m.q.q.2.1 m.q.q.2.2.1 m.q.q.2.2.2.1 m.q.q.2.2.2.2.1 m.q.q.q.1=some (FJ (m.q.q.1,m.q.q.2.1,m.q.q.2.2.1,m.q.q.2.2.2.1,m.q.q.2.2.2.2.1,m.q.q.q.1,()),()):=(Ci (m.q.q.1,m.q.q.2.1,m.q.q.2.2.1,m.q.q.2.2.2.1,m.q.q.2.2.2.2.1,m.q.q.q.1,()) (by show m.q.q.q.1.length≤_;omega)).1;have w3:=(Ci (m.q.q.1,m.q.q.2.1,m.q.q.2.2.1,m.q.q.2.2.2.1,m.q.q.2.2.2.2.1,m.q.q.q.1,()) (by show m.q.q.q.1.length≤_;omega)).2.2;unfold gk at k1;simp only [r1,c1,i1,t1,a1,z1,w1,sv,Option.bind_some] at k1
 cases e1:CY m.2.1 m.2.2.1
 ·rw [e1] at k1;injection k1 with k1;injection k1 with k1 _;subst k1;exact ⟨fun h=>(by cases h),fun h=>by rw [r3.2 h.ring] at e1;cases e1⟩
 by_cases e2:(m.1,())∈m.2.2.1
 case neg=>
  rw [e1,aq e2] at k1;injection k1 with k1;injection k1 with k1 _;subst k1;exact ⟨fun h=>(by cases h),fun h=>absurd h.mem e2⟩
 cases e3:sw m.2.2.2.1
 ·rw [e1,aj e2,e3] at k1;injection k1 with k1;injection k1 with k1 _;subst k1;exact ⟨fun h=>(by cases h),fun h=>by rw [i3.2 h.items] at e3;cases e3⟩
 cases b4
 ·rw [e1,aj e2,e3] at k1;injection k1 with k1;injection k1 with k1 _;subst k1;exact ⟨fun h=>(by cases h),fun h=>by have:=t2.2 ⟨h.texts.1,h.texts.2,h.lev,h.short⟩;cases this⟩
 rw [e1,aj e2,e3] at k1;simp only [Bool.not_true,cond_false] at k1
 cases e5:(decide ((0:Int)≤m.q.2.1)&&decide (m.q.2.1≤1000000000))
 ·rw [e5] at k1;injection k1 with k1;injection k1 with k1 _;subst k1;exact ⟨fun h=>(by cases h),fun h=>by rw [Dq.2 h.round] at e5;cases e5⟩
 cases e6:(decide ((0:Int)≤m.q.2.2.1)&&decide (m.q.2.2.1≤60))
 ·rw [e5,e6] at k1;injection k1 with k1;injection k1 with k1 _;subst k1;exact ⟨fun h=>(by cases h),fun h=>by rw [Dq.2 h.seen] at e6;cases e6⟩
 cases e8:(decide ((0:Int)≤m.q.2.2.2.1)&&decide (m.q.2.2.2.1≤((dw m.2.2.2.1:Nat):Int)))
 ·rw [e5,e6,e8] at k1;injection k1 with k1;injection k1 with k1 _;subst k1;exact ⟨fun h=>(by cases h),fun h=>by rw [Dq.2 h.line] at e8;cases e8⟩
 cases e9:(decide ((0:Int)≤m.q.2.2.2.2.1)&&decide (m.q.2.2.2.2.1≤((dw m.2.2.2.1:Nat):Int)))
 ·rw [e5,e6,e8,e9] at k1;injection k1 with k1;injection k1 with k1 _;subst k1;exact ⟨fun h=>(by cases h),fun h=>by rw [Dq.2 h.heard] at e9;cases e9⟩
 rw [e5,e6,e8,e9] at k1;obtain ⟨t3,t4,t5,t6⟩:=t2.1 rfl;have mk:(Blank (m.q.q.1,m.q.q.2.1,m.q.q.2.2.1,m.q.q.2.2.2.1,m.q.q.2.2.2.2.1,m.q.q.q.1,())∨FI (m.q.q.1,m.q.q.2.1,m.q.q.2.2.1,m.q.q.2.2.2.1,m.q.q.2.2.2.2.1,m.q.q.q.1,()))→sI m:=fun hl=>⟨r3.1 e1,e2,i3.1 e3,⟨t3,t4⟩,t5,t6,Ac e5,Ac e6,Ac e8,Ac e9,hl⟩
 cases Zl:qm (m.q.q.1,m.q.q.2.1,m.q.q.2.2.1,m.q.q.2.2.2.1,m.q.q.2.2.2.2.1,m.q.q.q.1,())
 ·rw [Zl] at k1
  cases e11:FJ (m.q.q.1,m.q.q.2.1,m.q.q.2.2.1,m.q.q.2.2.2.1,m.q.q.2.2.2.2.1,m.q.q.q.1,())
  ·rw [e11] at k1;injection k1 with k1;injection k1 with k1 _;subst k1;refine ⟨fun h=>(by cases h),fun h => ?_⟩;rcases h.last with q | q
   ·rw [z3.2 q] at Zl;cases Zl
   ·rw [w3.2 q] at e11;cases e11
  ·rw [e11] at k1;injection k1 with k1;injection k1 with k1 _;subst k1;exact ⟨fun _=>mk (.inr (w3.1 e11)),fun _=>rfl⟩
 ·rw [Zl] at k1;injection k1 with k1;injection k1 with k1 _;subst k1;exact ⟨fun _=>mk (.inl (z3.1 Zl)),fun _=>rfl⟩
theorem sI.small {m:eZ} (h:sI m):EV m≤5000:=by
 have h1:=cQ _ h.items;have h2:=CW _ h.short;have h3:=h.texts;have h4:=h.ring.2.1;have h5:m.q.q.q.1.length≤20:=by
  rcases h.last with q | q
  ·rw [show m.q.q.q.1=[] from q.2.2.2.2.2];exact Nat.zero_le _
  ·exact q.q.1
 unfold EV;rw [qG jN (fun _=>rfl),qG jN (fun _=>rfl),qG jN (fun _=>rfl)];omega
end Go.TM
set_option linter.unusedSimpArgs false
set_option linter.unusedVariables false
namespace Go.TM
open Go
def pM:aW→dv→aW
 | [],m=>[m]
 |r::xs,m=>if r.1<m.1 then r::pM xs m else if r.1=m.1 then r::xs else m::r::xs
def Oz (xs:aW):Prop:=xs.Pairwise fun a b=>a.1<b.1
def lW (xs:aW) (m:dv):Nat:=(xs.takeWhile fun r=>decide (r.1<m.1)).length
theorem To (xs:aW) (m:dv):lW xs m≤xs.length:=(List.takeWhile_sublist _).length_le
theorem Ck (r:dv) (xs:aW) (m:dv):lW (r::xs) m=if r.1<m.1 then lW xs m+1 else 0:=by
 unfold lW;rw [List.takeWhile_cons]
 by_cases h:r.1<m.1
 ·simp [h]
 ·simp [h]
theorem Jm (m:dv):(xs:aW)→pM xs m=if h:lW xs m<xs.length then (if xs[lW xs m].1=m.1 then xs else xs.take (lW xs m)++([m]++xs.drop (lW xs m))) else xs.take (lW xs m)++([m]++xs.drop (lW xs m))
 | []=>rfl
 |r::xs=>by
  have ih:=Jm m xs;unfold pM
  by_cases h:r.1<m.1
  ·rw [if_pos h,ih];have hp:lW (r::xs) m=lW xs m+1:=by rw [Ck,if_pos h]
   by_cases h2:lW xs m<xs.length
   ·have h3:lW (r::xs) m<(r::xs).length:=by rw [hp,List.length_cons];omega
    rw [dif_pos h2,dif_pos h3];have e:(r::xs)[lW (r::xs) m]=xs[lW xs m]:=by simp [hp]
    rw [e]
    by_cases h4:xs[lW xs m].1=m.1
    ·rw [if_pos h4,if_pos h4]
    ·rw [if_neg h4,if_neg h4,hp];rfl
   ·have h3:¬lW (r::xs) m<(r::xs).length:=by rw [hp,List.length_cons];omega
    rw [dif_neg h2,dif_neg h3,hp];rfl
  ·rw [if_neg h];have hp:lW (r::xs) m=0:=by rw [Ck,if_neg h]
   have h3:lW (r::xs) m<(r::xs).length:=by rw [hp,List.length_cons];omega
   rw [dif_pos h3];have e:(r::xs)[lW (r::xs) m]=r:=by simp [hp]
   rw [e,hp];rfl
theorem Rh {xs:aW} (h:ik xs xs.length):Oz xs:=by
 have key:∀(d i:Nat) (hi:i+d+1<xs.length),xs[i].1<xs[i+d+1].1:=by
  intro d
  induction d with
  |zero=>intro i hi;exact (h (i+1) hi hi).2 (by omega)
  |succ d ih=>
   intro i hi;have h1:=ih i (by omega);have h2:=(h (i+(d+1)+1) hi hi).2 (by omega);have e:i+(d+1)+1-1=i+d+1:=by omega
   simp only [e] at h2;omega
 unfold Oz;rw [List.pairwise_iff_getElem];intro i j hi hj hij;have:=key (j-i-1) i (by omega);simpa [show i+(j-i-1)+1=j by omega] using this
theorem Ri {xs:aW} (h:Oz xs) (hi:∀r∈xs,nW r):ik xs xs.length:=by
 intro k hk _;refine ⟨hi _ (List.getElem_mem hk),fun h0 => ?_⟩;unfold Oz at h;rw [List.pairwise_iff_getElem] at h;exact h (k-1) k (by omega) hk (by omega)
theorem yr {xs:aW} (h:ik xs xs.length):∀r∈xs,nW r:=by
 intro r hr;obtain ⟨k,hk,rfl⟩:=List.mem_iff_getElem.1 hr;exact (h k hk hk).1
theorem EW {r m:dv}:{xs:aW}→r∈pM xs m→r=m∨r∈xs
 | [],h=>by
  unfold pM at h;exact .inl (List.mem_singleton.1 h)
 |x::xs,h=>by
  unfold pM at h
  split at h
  ·rcases List.mem_cons.1 h with rfl | h
   ·exact .inr List.mem_cons_self
   ·exact (EW h).imp id (List.mem_cons_of_mem _)
  ·split at h
   ·exact .inr h
   ·rcases List.mem_cons.1 h with rfl | h
    ·exact .inl rfl
    ·exact .inr h
theorem Jn {m:dv}:{xs:aW}→Oz xs→Oz (pM xs m)
 | [],_=>by unfold pM Oz;simp
 |x::xs,h=>by
  unfold Oz at h;rw [List.pairwise_cons] at h;unfold pM
  split
  ·rename_i cA;unfold Oz;rw [List.pairwise_cons];refine ⟨fun y hy => ?_,Jn h.2⟩;rcases EW hy with rfl | hy
   ·exact cA
   ·exact h.1 y hy
  ·split
   ·unfold Oz;rw [List.pairwise_cons];exact h
   ·unfold Oz;rw [List.pairwise_cons,List.pairwise_cons];refine ⟨fun y hy => ?_,h⟩;rcases List.mem_cons.1 hy with rfl | hy
    ·omega
    ·have:=h.1 y hy;omega
theorem EX {xs:aW} {m:dv} (h:ik xs xs.length) (hm:nW m):ik (pM xs m) (pM xs m).length:=
 Ri (Jn (Rh h)) fun r hr=>(EW hr).elim (fun e=>e▸hm) (yr h r)
def mZ (xs:aW) (m:dv):aW:=xs.filter fun r=>decide (r.1<m.1)
def sx (xs:aW) (m:dv):aW:=xs.filter fun r=>decide (m.1<r.1)
def Bk (xs:aW) (s:Int):Bool:=xs.any fun r=>decide (r.1=s)
theorem CZ (m:dv):(xs:aW)→Oz xs→pM xs m=bif Bk xs m.1 then xs else mZ xs m++[m]++sx xs m
 | [],_=>rfl
 |r::xs,h=>by
  unfold Oz at h;rw [List.pairwise_cons] at h;have ih:=CZ m xs h.2;unfold pM
  by_cases h1:r.1<m.1
  ·rw [if_pos h1,ih];have e1:Bk (r::xs) m.1=Bk xs m.1:=by unfold Bk;rw [List.any_cons,aq (show ¬r.1=m.1 by omega)];rfl
   have e2:mZ (r::xs) m=r::mZ xs m:=by unfold mZ;rw [List.filter_cons,if_pos (aj h1)]
   have e3:sx (r::xs) m=sx xs m:=by unfold sx;rw [List.filter_cons,if_neg (by rw [decide_eq_true_eq];omega)]
   rw [e1,e2,e3]
   cases Bk xs m.1<;>rfl
  ·rw [if_neg h1]
   by_cases h2:r.1=m.1
   ·have e1:Bk (r::xs) m.1=true:=by unfold Bk;rw [List.any_cons,aj h2];rfl
    rw [if_pos h2,e1];rfl
   ·rw [if_neg h2];have mI:∀y∈r::xs,m.1<y.1:=by
     intro y hy;rcases List.mem_cons.1 hy with rfl | hy
     ·omega
     ·have:=h.1 y hy;omega
    have e1:Bk (r::xs) m.1=false:=by
     unfold Bk;rw [List.any_eq_false];intro y hy;have:=mI y hy;rw [decide_eq_true_eq];omega
    have e2:mZ (r::xs) m=[]:=by
     unfold mZ;rw [List.filter_eq_nil_iff];intro y hy;have:=mI y hy;rw [decide_eq_true_eq];omega
    have e3:sx (r::xs) m=r::xs:=by
     unfold sx;rw [List.filter_eq_self];intro y hy;exact aj (mI y hy)
    rw [e1,e2,e3];rfl
theorem Bl (xs:aW) (m:dv) (h:xs.length≤1048576) (hi:sw xs=true) (hm:yS m=true):iK xs m.1 m.2.1 m.2.2.1 m.2.2.2.1=some (pM xs m,()):=by
 obtain ⟨k1,_,k3⟩:=xN xs h;obtain ⟨q1,_,_⟩:=Bi m;have hs:=Rh (k3.1 hi);have hlen:∀k,(mZ (xs.take k) m).length≤k:=fun k=>Nat.le_trans (List.length_filter_le _ _) (by rw [List.length_take];omega)
 have I2:∀k,(sx (xs.take k) m).length≤k:=fun k=>Nat.le_trans (List.length_filter_le _ _) (by rw [List.length_take];omega)
 have l1:=ug (round:=iw) (n:=xs.length) (fun k=>(xs,m.1,m.2.1,m.2.2.1,m.2.2.2.1,xs,mZ (xs.take k) m,((k:Nat):Int),())) (fun k=>some (bif Bk (xs.drop k) m.1 then .inr (xs,()) else .inl (xs,m.1,m.2.1,m.2.2.1,m.2.2.2.1,mZ xs m,())))
  ⟨.inl (xs,m.1,m.2.1,m.2.2.1,m.2.2.2.1,mZ xs m,()),by simp only [iw,qa,aD,cond_false,List.take_length],by rw [List.drop_length];rfl⟩ (fun k hk=>by
   have e:Bk (xs.drop k) m.1=(decide (xs[k].1=m.1)||Bk (xs.drop (k+1)) m.1):=by unfold Bk;rw [List.drop_eq_getElem_cons hk,List.any_cons]
   have e2:mZ (xs.take (k+1)) m=mZ (xs.take k) m++(if decide (xs[k].1<m.1)=true then [xs[k]] else []):=by
    unfold mZ;rw [List.take_succ_eq_append_getElem hk,List.filter_append,List.filter_cons]
    split<;>rfl
   have hb:Nat.ble (((mZ (xs.take k) m).length+1)*40) lim=true:=aQ (by have:=hlen k;unfold lim;omega);simp only [iw,qa,az hk,aw,cond_true,aC,List.getElem?_eq_getElem hk,Option.bind_some,aE (show k<4611686018427387904 by omega),hb,e,e2]
   by_cases h1:xs[k].1=m.1
   ·rw [aj h1];exact .inl ⟨_,rfl,rfl⟩
   ·rw [aq h1];refine .inr ⟨?_,rfl⟩
    by_cases h2:xs[k].1<m.1
    ·rw [aj h2];rfl
    ·rw [aq h2,if_neg (by decide),List.append_nil];rfl) 0 (Nat.zero_le _)
 have l1:aF iw (xs,m.1,m.2.1,m.2.2.1,m.2.2.2.1,xs,[],(0:Int),())=_:=l1;rw [List.drop_zero] at l1;have l2:=bI (round:=fP) (e:=.inl (mZ xs m++[m]++sx xs m,())) xs.length (fun k=>(xs,m.1,m.2.1,m.2.2.1,m.2.2.2.1,mZ xs m++[m]++sx (xs.take k) m,((k:Nat):Int),())) (by
  simp only [fP,qb,aD,cond_false,List.take_length]) (fun k hk=>by
   have e2:sx (xs.take (k+1)) m=sx (xs.take k) m++(if decide (m.1<xs[k].1)=true then [xs[k]] else []):=by
    unfold sx;rw [List.take_succ_eq_append_getElem hk,List.filter_append,List.filter_cons]
    split<;>rfl
   have hb:Nat.ble (((mZ xs m++[m]++sx (xs.take k) m).length+1)*40) lim=true:=aQ (by
    have h1:=hlen xs.length;rw [List.take_length] at h1;have h2:=I2 k;simp only [List.length_append,List.length_cons,List.length_nil];unfold lim;omega)
   simp only [fP,qb,az hk,aw,cond_true,aC,List.getElem?_eq_getElem hk,Option.bind_some,aE (show k<4611686018427387904 by omega),hb,e2]
   by_cases h2:m.1<xs[k].1
   ·rw [aj h2,if_pos rfl,←List.append_assoc];rfl
   ·rw [aq h2,if_neg (by decide),List.append_nil];rfl)
 have l2:aF fP (xs,m.1,m.2.1,m.2.2.1,m.2.2.2.1,mZ xs m++[m]++sx (xs.take 0) m,(0:Int),())=_:=l2;rw [show sx (xs.take 0) m=[] from rfl,List.append_nil] at l2;have RF:Nat.ble ((0+xs.length)*40) lim=true:=aQ (by unfold lim;omega);have PI:Nat.ble (((mZ xs m).length+1)*40) lim=true:=aQ (by
  have h1:=hlen xs.length;rw [List.take_length] at h1;unfold lim;omega)
 rw [CZ m xs hs];unfold iK;simp only [k1,q1,hi,hm,RF,cond_true,Bool.not_true,cond_false,Option.bind_some,List.nil_append,l1]
 cases Bk xs m.1
 ·have l3:aF fP (xs,m.1,m.2.1,m.2.2.1,m.2.2.2.1,mZ xs m++[(m.1,m.2.1,m.2.2.1,m.2.2.2.1,())],(0:Int),())=_:=l2;simp only [cond_false,bN,Option.bind_some,PI,cond_true,l3]
 ·rfl
theorem Bm (xs:aW) (m:dv) (h:xs.length≤1048576):nG xs m.1 m.2.1 m.2.2.1 m.2.2.2.1=some (pM xs m,()):=by
 have l1:=ug (round:=iz) (n:=xs.length) (fun k=>(xs,m.1,m.2.1,m.2.2.1,m.2.2.2.1,((k:Nat):Int),())) (fun k=>some (.inl (xs,m.1,m.2.1,m.2.2.1,m.2.2.2.1,((k+lW (xs.drop k) m:Nat):Int),())))
  ⟨.inl (xs,m.1,m.2.1,m.2.2.1,m.2.2.2.1,((xs.length:Nat):Int),()),by simp only [iz,qj,aD,cond_false],by rw [List.drop_length];rfl⟩ (fun k hk=>by
   have e:lW (xs.drop k) m=if xs[k].1<m.1 then lW (xs.drop (k+1)) m+1 else 0:=by rw [List.drop_eq_getElem_cons hk,Ck]
   simp only [iz,qj,az hk,aw,cond_true,aC,cX hk,List.getElem?_eq_getElem hk,Option.bind_some,aE (show k<4611686018427387904 by omega),e]
   by_cases h1:xs[k].1<m.1
   ·rw [aj h1,if_pos h1];exact .inr ⟨rfl,by rw [show k+(lW (xs.drop (k+1)) m+1)=k+1+lW (xs.drop (k+1)) m by omega]⟩
   ·rw [aq h1,if_neg h1];exact .inl ⟨_,rfl,rfl⟩) 0 (Nat.zero_le _)
 have l1:aF iz (xs,m.1,m.2.1,m.2.2.1,m.2.2.2.1,(0:Int),())=_:=l1;rw [List.drop_zero,Nat.zero_add] at l1;have hp:=To xs m;have ak3:Jb xs ((lW xs m:Nat):Int) [(m.1,m.2.1,m.2.2.1,m.2.2.2.1,())]=some (xs.take (lW xs m)++([m]++xs.drop (lW xs m)),()):=by
  unfold Jb;rw [aw,aj (show ((lW xs m:Nat):Int)≤((xs.length:Nat):Int) by omega),aQ (show (xs.length+1)*40≤lim by unfold lim;omega)];rfl
 rw [Jm];unfold nG;simp only [l1,bN,ak3,Option.bind_some]
 by_cases h1:lW xs m<xs.length
 ·simp only [dif_pos h1,az h1,aw,aC,cX h1,cond_true,List.getElem?_eq_getElem h1,Option.bind_some]
  by_cases h2:xs[lW xs m].1=m.1
  ·rw [aj h2,if_pos h2];rfl
  ·rw [aq h2,if_neg h2];rfl
 ·rw [dif_neg h1,aq (show ¬((lW xs m:Nat):Int)<((xs.length:Nat):Int) by omega)];rfl
noncomputable def OA (xs:aW) (m:dv):aW:=bif sw xs&&yS m then pM xs m else xs
theorem HG (xs:aW) (m:dv) (h:xs.length≤1048576):iK xs m.1 m.2.1 m.2.2.1 m.2.2.2.1=some (OA xs m,())∧qS xs m.1 m.2.1 m.2.2.1 m.2.2.2.1=some (OA xs m,()):=by
 obtain ⟨k1,k2,_⟩:=xN xs h;obtain ⟨q1,q2,_⟩:=Bi m;have RF:Nat.ble ((0+xs.length)*40) lim=true:=aQ (by unfold lim;omega);unfold OA
 constructor
 ·cases hi:sw xs
  ·unfold iK;simp only [k1,hi,RF,cond_true,Option.bind_some];rfl
  ·cases hm:yS m
   ·unfold iK;simp only [k1,q1,hi,hm,RF,cond_true,Option.bind_some];rfl
   ·exact Bl xs m h hi hm
 ·unfold qS;simp only [k2,q2,CX xs h,Option.bind_some,Bm xs m h]
  cases sw xs<;>cases yS m<;>rfl
def Cl (m:eZ) (xs:aW):eZ:=(m.1,m.2.1,m.2.2.1,xs,m.2.2.2.2)
noncomputable def qn (m:eZ) (x:dv):eZ:=bif xO m then Cl m (OA m.2.2.2.1 x) else m
theorem Lf (m:eZ) (x:dv) (h:EV m≤1048576):vf m.1 m.2.1 m.2.2.1 m.2.2.2.1 m.2.2.2.2.1 m.q.1 m.q.2.1 m.q.2.2.1 m.q.2.2.2.1 m.q.2.2.2.2.1 m.q.q.1 m.q.q.2.1 m.q.q.2.2.1 m.q.q.2.2.2.1 m.q.q.2.2.2.2.1 m.q.q.q.1 x.1 x.2.1 x.2.2.1 x.2.2.2.1=some (qn m x)∧vO m.1 m.2.1 m.2.2.1 m.2.2.2.1 m.2.2.2.2.1 m.q.1 m.q.2.1 m.q.2.2.1 m.q.2.2.2.1 m.q.2.2.2.2.1 m.q.q.1 m.q.q.2.1 m.q.q.2.2.1 m.q.q.2.2.2.1 m.q.q.2.2.2.2.1 m.q.q.q.1 x.1 x.2.1 x.2.2.1 x.2.2.2.1=some (qn m x):=by
 obtain ⟨k1,k2,_⟩:=xP m h;obtain ⟨p1,p2⟩:=mY m.1 m.2.1 m.2.2.1 m.2.2.2.1 m.2.2.2.2.1 m.q.1 m.q.2.1 m.q.2.2.1 m.q.2.2.2.1 m.q.2.2.2.2.1 m.q.q.1 m.q.q.2.1 m.q.q.2.2.1 m.q.q.2.2.2.1 m.q.q.2.2.2.2.1 m.q.q.q.1 h;have hl:m.2.2.2.1.length≤1048576:=by unfold EV at h;omega
 obtain ⟨q1,q2⟩:=HG m.2.2.2.1 x hl;unfold qn
 constructor
 ·unfold vf;simp only [p1,k1,q1,Option.bind_some]
  cases xO m<;>rfl
 ·unfold vO;simp only [p2,k2,q2,Option.bind_some]
  cases xO m<;>rfl
end Go.TM
set_option linter.unusedSimpArgs false
set_option linter.unusedVariables false
namespace Go.TM
open Go
def yt (xs:aW) (s:Int):dv:=((pn (dL xs s)).1,(pn (dL xs s)).2.1,(pn (dL xs s)).2.2.1,(pn (dL xs s)).2.2.2.1,())
def il (xs:aW) (h:Int) (k:Nat):aW:=(List.range k).map fun j=>yt xs (h+((j+1:Nat):Int))
theorem sy (xs:aW) (h:Int) (k:Nat):(il xs h k).length=k:=by simp [il]
theorem tg (xs:aW) (h:Int) (k:Nat):il xs h (k+1)=il xs h k++[yt xs (h+((k+1:Nat):Int))]:=by
 unfold il;rw [List.range_succ,List.map_append];rfl
def yT (xs:aW) (line s:Int):Prop:=(yt xs s).2.2.1=2∧line<(yt xs s).1
theorem Rj (m:eZ) (h0:EV m≤1048576):∃(k:Nat) (v:Int),ur m.1 m.2.1 m.2.2.1 m.2.2.2.1 m.2.2.2.2.1 m.q.1 m.q.2.1 m.q.2.2.1 m.q.2.2.2.1 m.q.2.2.2.2.1 m.q.q.1 m.q.q.2.1 m.q.q.2.2.1 m.q.q.2.2.2.1 m.q.q.2.2.2.2.1 m.q.q.q.1=some (m.1,m.2.1,m.2.2.1,m.2.2.2.1,m.2.2.2.2.1,m.q.1,m.q.2.1,m.q.2.2.1,m.q.2.2.2.1,v,m.q.q.1,m.q.q.2.1,m.q.q.2.2.1,m.q.q.2.2.2.1,m.q.q.2.2.2.2.1,m.q.q.q.1,il m.2.2.2.1 m.q.2.2.2.2.1 k,())∧uu m.1 m.2.1 m.2.2.1 m.2.2.2.1 m.2.2.2.2.1 m.q.1 m.q.2.1 m.q.2.2.1 m.q.2.2.2.1 m.q.2.2.2.2.1 m.q.q.1 m.q.q.2.1 m.q.q.2.2.1 m.q.q.2.2.2.1 m.q.q.2.2.2.2.1 m.q.q.q.1=some (m.1,m.2.1,m.2.2.1,m.2.2.2.1,m.2.2.2.2.1,m.q.1,m.q.2.1,m.q.2.2.1,m.q.2.2.2.1,v,m.q.q.1,m.q.q.2.1,m.q.q.2.2.1,m.q.q.2.2.2.1,m.q.q.2.2.2.2.1,m.q.q.q.1,il m.2.2.2.1 m.q.2.2.2.2.1 k,())∧v=m.q.2.2.2.2.1+((k:Nat):Int)∧
  (xO m=false→k=0)∧(xO m=true→v≤((dw m.2.2.2.1:Nat):Int)∧(∀j,j<k→¬yT m.2.2.2.1 m.q.2.2.2.1 (m.q.2.2.2.2.1+((j+1:Nat):Int)))∧(v<((dw m.2.2.2.1:Nat):Int)→yT m.2.2.2.1 m.q.2.2.2.1 (m.q.2.2.2.2.1+((k+1:Nat):Int)))):=by
 obtain ⟨k1,k2,k3⟩:=xP m h0;obtain ⟨p1,p2⟩:=mY m.1 m.2.1 m.2.2.1 m.2.2.2.1 m.2.2.2.2.1 m.q.1 m.q.2.1 m.q.2.2.1 m.q.2.2.2.1 m.q.2.2.2.2.1 m.q.q.1 m.q.q.2.1 m.q.q.2.2.1 m.q.q.2.2.2.1 m.q.q.2.2.2.2.1 m.q.q.q.1 h0;unfold ur uu;simp only [k1,k2,p1,p2,Option.bind_some]
 cases hb:xO m
 ·exact ⟨0,m.q.2.2.2.2.1,rfl,rfl,by omega,(fun _=>rfl),(fun h=>by cases h)⟩
 have hm:=k3.1 hb;have hit:=cQ m.2.2.2.1 hm.items;have hl:m.2.2.2.1.length≤1048576:=by omega
 obtain ⟨a1,a2,a3⟩:=Cj m.2.2.2.1 hl;have hh:=hm.heard;generalize hn:dw m.2.2.2.1=n at a1 a2 a3 hh;have apw:n≤60:=Nat.le_trans a3.1 hit.1;obtain ⟨e,f,g1,g2,k,v,g3,g4,g5,g6,g7,g8⟩:∃e f,aF nE (m.1,m.2.1,m.2.2.1,m.2.2.2.1,m.2.2.2.2.1,m.q.1,m.q.2.1,m.q.2.2.1,m.q.2.2.2.1,m.q.2.2.2.2.1,m.q.q.1,m.q.q.2.1,m.q.q.2.2.1,m.q.q.2.2.2.1,m.q.q.2.2.2.2.1,m.q.q.q.1,(0:Int),(0:Int),[],[],[],[],(0:Int),(0:Int),(0:Int),(0:Int),(0:Int),(0:Int),(0:Int),(0:Int),(0:Int),[],m.1,m.2.1,m.2.2.1,m.2.2.2.1,m.2.2.2.2.1,m.q.1,m.q.2.1,m.q.2.2.1,m.q.2.2.2.1,m.q.2.2.2.2.1,m.q.q.1,m.q.q.2.1,m.q.q.2.2.1,m.q.q.2.2.2.1,m.q.q.2.2.2.2.1,m.q.q.q.1,[],((n:Nat):Int),())=some e∧aF nJ (m.1,m.2.1,m.2.2.1,m.2.2.2.1,m.2.2.2.2.1,m.q.1,m.q.2.1,m.q.2.2.1,m.q.2.2.2.1,m.q.2.2.2.2.1,m.q.q.1,m.q.q.2.1,m.q.q.2.2.1,m.q.q.2.2.2.1,m.q.q.2.2.2.2.1,m.q.q.q.1,(0:Int),(0:Int),[],[],[],[],(0:Int),(0:Int),(0:Int),(0:Int),(0:Int),(0:Int),(0:Int),(0:Int),(0:Int),[],m.1,m.2.1,m.2.2.1,m.2.2.2.1,m.2.2.2.2.1,m.q.1,m.q.2.1,m.q.2.2.1,m.q.2.2.2.1,m.q.2.2.2.2.1,m.q.q.1,m.q.q.2.1,m.q.q.2.2.1,m.q.q.2.2.2.1,m.q.q.2.2.2.2.1,m.q.q.q.1,[],())=some f∧
   ∃(k:Nat) (v:Int),(e=.inl ((0:Int),(0:Int),[],[],[],[],(0:Int),(0:Int),(0:Int),(0:Int),(0:Int),(0:Int),(0:Int),(0:Int),(0:Int),[],m.1,m.2.1,m.2.2.1,m.2.2.2.1,m.2.2.2.2.1,m.q.1,m.q.2.1,m.q.2.2.1,m.q.2.2.2.1,v,m.q.q.1,m.q.q.2.1,m.q.q.2.2.1,m.q.q.2.2.2.1,m.q.q.2.2.2.2.1,m.q.q.q.1,il m.2.2.2.1 m.q.2.2.2.2.1 k,())∨e=.inr (m.1,m.2.1,m.2.2.1,m.2.2.2.1,m.2.2.2.2.1,m.q.1,m.q.2.1,m.q.2.2.1,m.q.2.2.2.1,v,m.q.q.1,m.q.q.2.1,m.q.q.2.2.1,m.q.q.2.2.2.1,m.q.q.2.2.2.2.1,m.q.q.q.1,il m.2.2.2.1 m.q.2.2.2.2.1 k,()))∧f=.inl ((0:Int),(0:Int),[],[],[],[],(0:Int),(0:Int),(0:Int),(0:Int),(0:Int),(0:Int),(0:Int),(0:Int),(0:Int),[],m.1,m.2.1,m.2.2.1,m.2.2.2.1,m.2.2.2.2.1,m.q.1,m.q.2.1,m.q.2.2.1,m.q.2.2.2.1,v,m.q.q.1,m.q.q.2.1,m.q.q.2.2.1,m.q.q.2.2.2.1,m.q.q.2.2.2.2.1,m.q.q.q.1,il m.2.2.2.1 m.q.2.2.2.2.1 k,())∧v=m.q.2.2.2.2.1+((k:Nat):Int)∧v≤((n:Nat):Int)∧
    (∀j,j<k→¬yT m.2.2.2.1 m.q.2.2.2.1 (m.q.2.2.2.2.1+((j+1:Nat):Int)))∧(v<((n:Nat):Int)→yT m.2.2.2.1 m.q.2.2.2.1 (m.q.2.2.2.2.1+((k+1:Nat):Int))):=by
  refine nm 60 (fun k x y=>∃v:Int,x=(m.1,m.2.1,m.2.2.1,m.2.2.2.1,m.2.2.2.2.1,m.q.1,m.q.2.1,m.q.2.2.1,m.q.2.2.2.1,m.q.2.2.2.2.1,m.q.q.1,m.q.q.2.1,m.q.q.2.2.1,m.q.q.2.2.2.1,m.q.q.2.2.2.2.1,m.q.q.q.1,(0:Int),(0:Int),[],[],[],[],(0:Int),(0:Int),(0:Int),(0:Int),(0:Int),(0:Int),(0:Int),(0:Int),(0:Int),[],m.1,m.2.1,m.2.2.1,m.2.2.2.1,m.2.2.2.2.1,m.q.1,m.q.2.1,m.q.2.2.1,m.q.2.2.2.1,v,m.q.q.1,m.q.q.2.1,m.q.q.2.2.1,m.q.q.2.2.2.1,m.q.q.2.2.2.2.1,m.q.q.q.1,il m.2.2.2.1 m.q.2.2.2.2.1 k,((n:Nat):Int),())∧y=(m.1,m.2.1,m.2.2.1,m.2.2.2.1,m.2.2.2.2.1,m.q.1,m.q.2.1,m.q.2.2.1,m.q.2.2.2.1,m.q.2.2.2.2.1,m.q.q.1,m.q.q.2.1,m.q.q.2.2.1,m.q.q.2.2.2.1,m.q.q.2.2.2.2.1,m.q.q.q.1,(0:Int),(0:Int),[],[],[],[],(0:Int),(0:Int),(0:Int),(0:Int),(0:Int),(0:Int),(0:Int),(0:Int),(0:Int),[],m.1,m.2.1,m.2.2.1,m.2.2.2.1,m.2.2.2.2.1,m.q.1,m.q.2.1,m.q.2.2.1,m.q.2.2.2.1,v,m.q.q.1,m.q.q.2.1,m.q.q.2.2.1,m.q.q.2.2.2.1,m.q.q.2.2.2.2.1,m.q.q.q.1,il m.2.2.2.1 m.q.2.2.2.2.1 k,())∧v=m.q.2.2.2.2.1+((k:Nat):Int)∧v≤((n:Nat):Int)∧∀j,j<k→¬yT m.2.2.2.1 m.q.2.2.2.1 (m.q.2.2.2.2.1+((j+1:Nat):Int))) _ ?_ ⟨m.q.2.2.2.2.1,rfl,rfl,by omega,hh.2,fun j h=>by omega⟩
  rintro k x y hk ⟨v,rfl,rfl,q1,q2,q3⟩
  by_cases cA:v<((n:Nat):Int)
  ·have hw:IntKind.i64.wrap (v+(1:Int))=m.q.2.2.2.2.1+((k+1:Nat):Int):=by rw [dk]<;>omega
   have hbl:Nat.ble (((il m.2.2.2.1 m.q.2.2.2.2.1 k).length+1)*40) lim=true:=aQ (by rw [sy];unfold lim;omega);have more:¬yT m.2.2.2.1 m.q.2.2.2.1 (m.q.2.2.2.2.1+((k+1:Nat):Int))→∀j,j<k+1→¬yT m.2.2.2.1 m.q.2.2.2.1 (m.q.2.2.2.2.1+((j+1:Nat):Int)):=fun hnw j hj=>by
    by_cases e:j<k
    ·exact q3 j e
    ·have:j=k:=by omega
     subst this;exact hnw
   simp only [nE,vC,nJ,vZ,aj cA,a2,hw,td m.2.2.2.1 _ hl,tf m.2.2.2.1 _ hl,Option.bind_some,cond_true,hbl]
   by_cases c1:(pn (dL m.2.2.2.1 (m.q.2.2.2.2.1+((k+1:Nat):Int)))).2.2.1=2
   ·rw [aj c1]
    by_cases c2:m.q.2.2.2.1<(pn (dL m.2.2.2.1 (m.q.2.2.2.2.1+((k+1:Nat):Int)))).1
    ·rw [aj c2];exact .inl ⟨_,_,rfl,rfl,k,v,.inr rfl,rfl,q1,q2,q3,fun _=>⟨c1,c2⟩⟩
    ·rw [aq c2];exact .inr ⟨by omega,_,_,rfl,rfl,m.q.2.2.2.2.1+((k+1:Nat):Int),by rw [tg];rfl,by rw [tg];rfl,rfl,by omega,more fun h=>c2 h.2⟩
   ·rw [aq c1];exact .inr ⟨by omega,_,_,rfl,rfl,m.q.2.2.2.2.1+((k+1:Nat):Int),by rw [tg];rfl,by rw [tg];rfl,rfl,by omega,more fun h=>c1 h.1⟩
  ·simp only [nE,vC,nJ,vZ,aq cA,a2,Option.bind_some,cond_false];exact .inl ⟨_,_,rfl,rfl,k,v,.inl rfl,rfl,q1,q2,q3,fun h=>absurd h cA⟩
 simp only [a1,Option.bind_some,Bool.not_true,cond_false];rw [g1,g2,g4];refine ⟨k,v,?_,rfl,g5,(fun h=>by cases h),(fun _=>⟨by first | exact g6 | (rw [hn];exact g6),g7,fun h=>g8 (by first | exact h | (rw [hn] at h;exact h))⟩)⟩;rcases g3 with rfl | rfl
 ·rfl
 ·rfl
end Go.TM
set_option linter.unusedSimpArgs false
set_option linter.unusedVariables false
namespace Go.TM
open Go
def Rk {A B C:Type} (P:A→Prop):Sum A B→Sum A C→Prop
 |.inl a,.inl b=>a=b∧P a
 |_,_=>False
theorem HH (cR:Int) (cS:Int) (bA:Int) (cH:Int) (cJ:Int) (cw:List (Int×Unit)) (bC:Int) (cD:List (Int×Unit)) (aS:List (ByteArray×Unit)) (h0:List.length cw≤1048576):∃o0 o1 o2 o3 o4 o5 o6,s7 cR cS bA cH cJ cw bC cD aS=some (o0,o1,o2,o3,o4,o5,o6,())∧mW cR cS bA cH cJ cw bC cD aS=some (o0,o1,o2,o3,o4,o5,o6,())∧o5=cw∧(List.length o6+wl bP o6)≤1048576:=by
 obtain ⟨b,k1,k2,k3⟩:=wc cR cS bA cH cJ cw (by omega);obtain ⟨c1,c2⟩:=gh cR cS bA cH cJ cw (by omega);have hm:(if (3:Int)<((List.length aS:Nat):Int) then (3:Int) else ((List.length aS:Nat):Int))=((min 3 aS.length:Nat):Int):=by split<;>omega
 unfold s7 mW;simp only [k1,k2,c1,c2,sv,ra,Option.bind_some]
 cases b
 ·cases (decide (1≤bC)&&decide (bC≤5))
  ·exact ⟨_,_,_,_,_,cw,[],rfl,rfl,rfl,by decide⟩
  ·exact ⟨_,_,_,_,_,cw,[],rfl,rfl,rfl,by decide⟩
 cases (decide (1≤bC)&&decide (bC≤5))
 ·exact ⟨_,_,_,_,_,cw,[],rfl,rfl,rfl,by decide⟩
 obtain ⟨z1,z2,z3,z4,z5,z6⟩:=k3 rfl;have Pf:(aS.take (min 3 aS.length)).length=min 3 aS.length:=by simp
 simp only [Bool.not_true,cond_false,hm,aC,aw,cond_true,List.drop_zero,Pf,aj (show ((min 3 aS.length:Nat):Int)≤((List.length aS:Nat):Int) by omega)];obtain ⟨e,f,g1,g2,g3⟩:∃e f,aF jz (bC,cD,aS,cR,cS,bA,cH,cJ,cw,(0:Int),(0:Int),(0:Int),(0:Int),(0:Int),[],cR,cS,bA,cH,cJ,cw,[],(0:Int),())=some e∧
   aF dq (bC,cD,cR,cS,bA,cH,cJ,cw,(0:Int),(0:Int),(0:Int),(0:Int),(0:Int),[],cR,cS,bA,cH,cJ,cw,[],aS.take (min 3 aS.length),((min 3 aS.length:Nat):Int),(0:Int),())=some f∧
   Rk (fun v=>∃(q:Int) (l:aW),v=(cR,cS,bA,cH,cJ,cw,(0:Int),(0:Int),(0:Int),(0:Int),(0:Int),[],cR,cS,q,cH,cJ,cw,l,())∧l.length≤3∧wl bP l≤180) e f:=by
  refine nm 3 (fun k x y=>∃l:aW,x=(bC,cD,aS,cR,cS,bA,cH,cJ,cw,(0:Int),(0:Int),(0:Int),(0:Int),(0:Int),[],cR,cS,bA+((k:Nat):Int),cH,cJ,cw,l,((k:Nat):Int),())∧
   y=(bC,cD,cR,cS,bA,cH,cJ,cw,(0:Int),(0:Int),(0:Int),(0:Int),(0:Int),[],cR,cS,bA+((k:Nat):Int),cH,cJ,cw,l,aS.take (min 3 aS.length),((min 3 aS.length:Nat):Int),((k:Nat):Int),())∧l.length=k∧wl bP l≤60*k) _ ?_ ⟨[],by rw [show bA+((0:Nat):Int)=bA by omega];rfl,by rw [show bA+((0:Nat):Int)=bA by omega];rfl,rfl,Nat.le_refl _⟩
  rintro k x y hk ⟨l,rfl,rfl,q1,q2⟩
  have stop:∀ {A B:Type} (u:Sum _ A) (v:Sum _ B),u=.inl (cR,cS,bA,cH,cJ,cw,(0:Int),(0:Int),(0:Int),(0:Int),(0:Int),([]:List (Int×Unit)),cR,cS,bA+((k:Nat):Int),cH,cJ,cw,l,())→v=.inl (cR,cS,bA,cH,cJ,cw,(0:Int),(0:Int),(0:Int),(0:Int),(0:Int),([]:List (Int×Unit)),cR,cS,bA+((k:Nat):Int),cH,cJ,cw,l,())→
    Rk (fun v=>∃(q:Int) (l:aW),v=(cR,cS,bA,cH,cJ,cw,(0:Int),(0:Int),(0:Int),(0:Int),(0:Int),([]:List (Int×Unit)),cR,cS,q,cH,cJ,cw,l,())∧l.length≤3∧wl bP l≤180) u v:=by
   intro A B u v e1 e2;subst e1 e2;exact ⟨rfl,_,l,rfl,by omega,by omega⟩
  by_cases h1:k<aS.length
  ·by_cases h4:k<3
   ·have Zt:k<min 3 aS.length:=by omega
    have Ai:(aS.take (min 3 aS.length))[k]?=some aS[k]:=by rw [List.getElem?_take_of_lt Zt];exact List.getElem?_eq_getElem h1
    have e1:IntKind.i64.wrap ((bA+((k:Nat):Int))+(1:Int))=bA+((k+1:Nat):Int):=by rw [dk]<;>omega
    simp only [jz,nA,dq,fx,az h1,az Zt,aj (show ((k:Nat):Int)<(3:Int) by omega),aw,cond_true,aC,List.getElem?_eq_getElem h1,Ai,Option.bind_some,e1,aQ (show (l.length+1)*40≤lim by unfold lim;omega),aE (show k<4611686018427387904 by omega)]
    by_cases h5:bA+((k:Nat):Int)<60
    ·rw [aj h5,aq (show ¬(60:Int)≤bA+((k:Nat):Int) by omega)]
     by_cases h6:((ByteArray.size aS[k].1:Nat):Int)≤60
     ·rw [aj h6,aq (show ¬(60:Int)<((ByteArray.size aS[k].1:Nat):Int) by omega)];have add:∀lv:Int,wl bP (l++[(bA+((k+1:Nat):Int),bC,lv,aS[k].1,())])≤60*(k+1):=by
       intro lv;rw [Ek];have:wl bP [(bA+((k+1:Nat):Int),bC,lv,aS[k].1,())]=ByteArray.size aS[k].1:=rfl;omega
      by_cases h7:k<cD.length
      ·rw [az h7];simp only [cond_true,cond_false,List.getElem?_eq_getElem h7,Option.bind_some]
       cases decide (cD[k].1=2)
       ·exact .inr ⟨h4,_,_,rfl,rfl,_,rfl,rfl,by simp [q1],add 1⟩
       ·exact .inr ⟨h4,_,_,rfl,rfl,_,rfl,rfl,by simp [q1],add 2⟩
      ·rw [aq (show ¬((k:Nat):Int)<((List.length cD:Nat):Int) by omega)];exact .inr ⟨h4,_,_,rfl,rfl,_,rfl,rfl,by simp [q1],add 1⟩
     ·rw [aq h6,aj (show (60:Int)<((ByteArray.size aS[k].1:Nat):Int) by omega)];exact .inl ⟨_,_,rfl,rfl,stop _ _ rfl rfl⟩
    ·rw [aq h5,aj (show (60:Int)≤bA+((k:Nat):Int) by omega)];exact .inl ⟨_,_,rfl,rfl,stop _ _ rfl rfl⟩
   ·have RA:k=3:=by omega
    refine .inl ⟨_,_,?_,?_,stop _ _ rfl rfl⟩
    ·simp only [jz,nA,az h1,aq (show ¬((k:Nat):Int)<(3:Int) by omega),cond_true,cond_false]
    ·simp only [dq,fx,aq (show ¬((k:Nat):Int)<((min 3 aS.length:Nat):Int) by omega),cond_false]
  ·refine .inl ⟨_,_,?_,?_,stop _ _ rfl rfl⟩
   ·simp only [jz,nA,aq (show ¬((k:Nat):Int)<((List.length aS:Nat):Int) by omega),cond_false]
   ·simp only [dq,fx,aq (show ¬((k:Nat):Int)<((min 3 aS.length:Nat):Int) by omega),cond_false]
 rw [g1,g2]
 cases e with
 |inr e=>exact g3.elim
 |inl e=>cases f with
  |inr f=>exact g3.elim
  |inl f=>
   obtain ⟨rfl,q,l,rfl,q1,q2⟩:=g3;simp only [cW]
   cases decide (cH=bA)
   ·exact ⟨_,_,_,_,_,cw,l,rfl,rfl,rfl,by omega⟩
   ·cases decide (cJ=0)
    ·exact ⟨_,_,_,_,_,cw,l,rfl,rfl,rfl,by omega⟩
    ·exact ⟨_,_,_,_,_,cw,l,rfl,rfl,rfl,by omega⟩
end Go.TM
set_option linter.unusedSimpArgs false
set_option linter.unusedVariables false
namespace Go.TM
open Go
def yu (c2 from_:Int) (level:List (Int×Unit)) (texts:List (ByteArray×Unit)) (j:Nat):dv:=
 (c2+((j+1:Nat):Int),from_,(bif decide (j<level.length)&&decide ((level.getD j ((0:Int),())).1=2) then 2 else 1),(texts.getD j (ByteArray.empty,())).1,())
def dI (c2 from_:Int) (level:List (Int×Unit)) (texts:List (ByteArray×Unit)) (m:Nat):aW:=(List.range m).map (yu c2 from_ level texts)
theorem j6 (c2 from_:Int) (level:List (Int×Unit)) (texts:List (ByteArray×Unit)) (m:Nat):(dI c2 from_ level texts m).length=m:=by simp [dI]
theorem FK (c2 from_:Int) (level:List (Int×Unit)) (texts:List (ByteArray×Unit)) (m:Nat):dI c2 from_ level texts (m+1)=dI c2 from_ level texts m++[yu c2 from_ level texts m]:=by
 unfold dI;rw [List.range_succ,List.map_append];rfl
def Ds (c2:Int) (texts:List (ByteArray×Unit)) (m:Nat):Prop:=m=min 3 texts.length∨60≤c2+((m:Nat):Int)∨∃h:m<texts.length,60<ByteArray.size texts[m].1
theorem Lg (cR:Int) (cS:Int) (bA:Int) (cH:Int) (cJ:Int) (cw:List (Int×Unit)) (bC:Int) (cD:List (Int×Unit)) (aS:List (ByteArray×Unit)) (h0:List.length cw≤1048576) (h3:List.length aS≤1048576) (hd:1≤bC∧bC≤5) (ht:Zr cR cS bA cH cJ cw) :
  ∃m t3,mW cR cS bA cH cJ cw bC cD aS=some (cR,cS,bA+((m:Nat):Int),t3,cJ,cw,dI bA bC cD aS m,())∧m≤3∧m≤aS.length∧bA+((m:Nat):Int)≤60∧(t3=cH∨t3=bA+((m:Nat):Int))∧Ds bA aS m∧t3=(if cH=bA∧cJ=0 then bA+((m:Nat):Int) else cH):=by
 obtain ⟨b,_,k2,k3⟩:=GN cR cS bA cH cJ cw h0;have hb:=k3.2 ht;subst hb;obtain ⟨_,c2⟩:=gh cR cS bA cH cJ cw h0;obtain ⟨_,_,z2,z3,_⟩:=ht;have hm:(if (3:Int)<((List.length aS:Nat):Int) then (3:Int) else ((List.length aS:Nat):Int))=((min 3 aS.length:Nat):Int):=by split<;>omega
 have Pf:(aS.take (min 3 aS.length)).length=min 3 aS.length:=by simp
 unfold mW;simp only [k2,c2,ra,aj hd.1,aj hd.2,Bool.and_self,Option.bind_some,Bool.not_true,cond_false,hm,aC,aw,cond_true,List.drop_zero,Pf,aj (show ((min 3 aS.length:Nat):Int)≤((List.length aS:Nat):Int) by omega)];have fin:∀(k:Nat),∃v:Int×Int×Int×Int×Int×(List (Int×Unit))×Int×Int×Int×Int×Int×(List (Int×Unit))×Int×Int×Int×Int×Int×(List (Int×Unit))×aW×Unit,v=(cR,cS,bA,cH,cJ,cw,(0:Int),(0:Int),(0:Int),(0:Int),(0:Int),[],cR,cS,bA+((k:Nat):Int),cH,cJ,cw,dI bA bC cD aS k,()):=fun k=>⟨_,rfl⟩
 obtain ⟨e,g1,m,g2,g3,g4,g5,g6⟩:∃e,aF dq (bC,cD,cR,cS,bA,cH,cJ,cw,(0:Int),(0:Int),(0:Int),(0:Int),(0:Int),[],cR,cS,bA,cH,cJ,cw,[],aS.take (min 3 aS.length),((min 3 aS.length:Nat):Int),(0:Int),())=some e∧
   ∃m:Nat,e=.inl (cR,cS,bA,cH,cJ,cw,(0:Int),(0:Int),(0:Int),(0:Int),(0:Int),[],cR,cS,bA+((m:Nat):Int),cH,cJ,cw,dI bA bC cD aS m,())∧m≤3∧m≤aS.length∧bA+((m:Nat):Int)≤60∧Ds bA aS m:=by
  refine cL (min 3 aS.length) (fun k x=>x=(bC,cD,cR,cS,bA,cH,cJ,cw,(0:Int),(0:Int),(0:Int),(0:Int),(0:Int),[],cR,cS,bA+((k:Nat):Int),cH,cJ,cw,dI bA bC cD aS k,aS.take (min 3 aS.length),((min 3 aS.length:Nat):Int),((k:Nat):Int),())∧bA+((k:Nat):Int)≤60) _ ?_ ?_ ⟨by rw [show bA+((0:Nat):Int)=bA by omega];rfl,by omega⟩
  ·rintro x ⟨rfl,q⟩
   exact ⟨_,by simp only [dq,fx,aD,cond_false],_,rfl,by omega,by omega,q,.inl rfl⟩
  ·rintro k x Zt ⟨rfl,q⟩
   have h1:k<aS.length:=by omega
   have Ai:(aS.take (min 3 aS.length))[k]?=some aS[k]:=by rw [List.getElem?_take_of_lt Zt];exact List.getElem?_eq_getElem h1
   have hgt:(aS.getD k (ByteArray.empty,())).1=aS[k].1:=by rw [List.getD_eq_getElem?_getD,List.getElem?_eq_getElem h1,Option.getD_some]
   have stop:Ds bA aS k→∃m:Nat,(.inl (cR,cS,bA,cH,cJ,cw,(0:Int),(0:Int),(0:Int),(0:Int),(0:Int),[],cR,cS,bA+((k:Nat):Int),cH,cJ,cw,dI bA bC cD aS k,()):Sum _ Unit)=.inl (cR,cS,bA,cH,cJ,cw,(0:Int),(0:Int),(0:Int),(0:Int),(0:Int),([]:List (Int×Unit)),cR,cS,bA+((m:Nat):Int),cH,cJ,cw,dI bA bC cD aS m,())∧m≤3∧m≤aS.length∧bA+((m:Nat):Int)≤60∧Ds bA aS m:=
    fun hq=>⟨k,rfl,by omega,by omega,q,hq⟩
   by_cases h5:(60:Int)≤bA+((k:Nat):Int)
   ·refine .inl ⟨_,?_,stop (.inr (.inl h5))⟩;simp only [dq,fx,az Zt,aw,cond_true,aC,Ai,Option.bind_some,aj h5]
   have e1:IntKind.i64.wrap ((bA+((k:Nat):Int))+(1:Int))=bA+((k+1:Nat):Int):=by rw [dk]<;>omega
   by_cases h6:(60:Int)<((ByteArray.size aS[k].1:Nat):Int)
   ·refine .inl ⟨_,?_,stop (.inr (.inr ⟨h1,by omega⟩))⟩;simp only [dq,fx,az Zt,aw,cond_true,cond_false,aC,Ai,Option.bind_some,aq h5,aj h6]
   refine .inr ⟨_,?_,rfl,by omega⟩;have hlen:=j6 bA bC cD aS k;simp only [dq,fx,az Zt,aw,cond_true,cond_false,aC,Ai,Option.bind_some,aq h5,aq h6,e1,hlen,aQ (show (k+1)*40≤lim by unfold lim;omega),aE (show k<4611686018427387904 by omega)];rw [FK];unfold yu;rw [hgt]
   by_cases h7:k<cD.length
   ·have hgl:cD.getD k ((0:Int),())=cD[k]:=by rw [List.getD_eq_getElem?_getD,List.getElem?_eq_getElem h7,Option.getD_some]
    rw [az h7,aj h7,hgl];simp only [cond_true,List.getElem?_eq_getElem h7,Option.bind_some,Bool.true_and]
    cases decide (cD[k].1=2)<;>rfl
   ·rw [aq (show ¬((k:Nat):Int)<((List.length cD:Nat):Int) by omega),aq h7];rfl
 rw [g1];subst g2;simp only [cW]
 by_cases w1:cH=bA
 ·rw [aj w1]
  by_cases w2:cJ=0
  ·rw [aj w2];exact ⟨m,_,rfl,g3,g4,g5,.inr rfl,g6,by rw [if_pos ⟨w1,w2⟩]⟩
  ·rw [aq w2];exact ⟨m,_,rfl,g3,g4,g5,.inl rfl,g6,by rw [if_neg (fun h=>w2 h.2)]⟩
 ·rw [aq w1];exact ⟨m,_,rfl,g3,g4,g5,.inl rfl,g6,by rw [if_neg (fun h=>w1 h.1)]⟩
end Go.TM
set_option linter.unusedSimpArgs false
set_option linter.unusedVariables false
namespace Go.TM
open Go
def C0 (c2 c3 c4 d a:Int):Int:=if a<c3 then a else if c4=d then (if c2<a then c2 else a) else c3
def C1 (c2 c3 c4 d a:Int):Int:=if a<c3 then d else if c4=d then (if c2≤a then 0 else c4) else c4
theorem Rl (c0 c1 c2 c3 c4:Int) (xs:List (Int×Unit)) (d a:Int) (h:xs.length≤1048576) {b:Bool} (hb:dF c0 c1 c2 c3 c4 xs=some (b,())) :
  ∃t3 t4,yl c0 c1 c2 c3 c4 xs d a=some (c0,c1,c2,t3,t4,xs,())∧yo c0 c1 c2 c3 c4 xs d a=some (c0,c1,c2,t3,t4,xs,())∧
   (b=false∨d<1∨5<d∨a<0→t3=c3∧t4=c4)∧(b=true→1≤d→d≤5→0≤a→0≤c3→c3≤c2→0≤t3∧t3≤c2∧t3≤a∧(t3≤c3∨c4=d)∧(t4=c4∨t4=d∨(t4=0∧c4=d)))∧(b=true→1≤d→d≤5→0≤a→t3=C0 c2 c3 c4 d a∧t4=C1 c2 c3 c4 d a):=by
 obtain ⟨b',h1,h2,_⟩:=wc c0 c1 c2 c3 c4 xs h;rw [hb] at h1;obtain rfl:b=b':=by injection h1 with h1;injection h1
 obtain ⟨h3,h4⟩:=gh c0 c1 c2 c3 c4 xs h;unfold yl yo;simp only [Option.bind_some,hb,h2,h3,h4,sv,ra]
 cases b
 ·have:∀t3 t4:Int,t3=c3→t4=c4→(false=false∨d<1∨5<d∨a<0→t3=c3∧t4=c4)∧(false=true→1≤d→d≤5→0≤a→0≤c3→c3≤c2→0≤t3∧t3≤c2∧t3≤a∧(t3≤c3∨c4=d)∧(t4=c4∨t4=d∨(t4=0∧c4=d)))∧(false=true→1≤d→d≤5→0≤a→t3=C0 c2 c3 c4 d a∧t4=C1 c2 c3 c4 d a):=
   fun t3 t4 e1 e2=>⟨fun _=>⟨e1,e2⟩,(fun h=>by cases h),(fun h=>by cases h)⟩
  cases (decide (1≤d)&&decide (d≤5))
  ·exact ⟨_,_,rfl,rfl,this _ _ rfl rfl⟩
  cases decide (a<0)
  ·exact ⟨_,_,rfl,rfl,this _ _ rfl rfl⟩
  ·exact ⟨_,_,rfl,rfl,this _ _ rfl rfl⟩
 by_cases hd:1≤d∧d≤5
 ·rw [aj hd.1,aj hd.2]
  by_cases ha:a<0
  ·rw [aj ha];exact ⟨_,_,rfl,rfl,(fun _=>⟨rfl,rfl⟩),(fun _ _ _ h=>by omega),(fun _ _ _ h=>by omega)⟩
  rw [aq ha];have no:∀ {A:Prop},(true=false∨d<1∨5<d∨a<0)→A:=by
   rintro A (h | h | h | h)
   ·cases h
   ·omega
   ·omega
   ·omega
  by_cases h5:a<c3
  ·rw [aj h5];exact ⟨_,_,rfl,rfl,no,(fun _ _ _ _ _ _=>⟨by omega,by omega,by omega,.inl (by omega),.inr (.inl rfl)⟩),fun _ _ _ _=>by unfold C0 C1;rw [if_pos h5,if_pos h5];exact ⟨rfl,rfl⟩⟩
  rw [aq h5]
  by_cases h6:c4=d
  ·rw [aj h6]
   by_cases h7:c2<a
   ·rw [aj h7,if_pos h7,aj (show c2=c2 from rfl)];exact ⟨_,_,rfl,rfl,no,(fun _ _ _ _ _ _=>⟨by omega,by omega,by omega,.inr h6,.inr (.inr ⟨rfl,h6⟩)⟩),fun _ _ _ _=>by unfold C0 C1;rw [if_neg h5,if_neg h5,if_pos h6,if_pos h6,if_pos h7,if_pos (by omega)];exact ⟨rfl,rfl⟩⟩
   ·rw [aq h7,if_neg h7]
    by_cases h8:a=c2
    ·rw [aj h8];exact ⟨_,_,rfl,rfl,no,(fun _ _ _ _ _ _=>⟨by omega,by omega,by omega,.inr h6,.inr (.inr ⟨rfl,h6⟩)⟩),fun _ _ _ _=>by unfold C0 C1;rw [if_neg h5,if_neg h5,if_pos h6,if_pos h6,if_neg h7,if_pos (by omega)];exact ⟨rfl,rfl⟩⟩
    ·rw [aq h8];exact ⟨_,_,rfl,rfl,no,(fun _ _ _ _ _ _=>⟨by omega,by omega,by omega,.inr h6,.inl rfl⟩),fun _ _ _ _=>by unfold C0 C1;rw [if_neg h5,if_neg h5,if_pos h6,if_pos h6,if_neg h7,if_neg (by omega)];exact ⟨rfl,rfl⟩⟩
  ·rw [aq h6];exact ⟨_,_,rfl,rfl,no,(fun _ _ _ _ _ _=>⟨by omega,by omega,by omega,.inl (by omega),.inl rfl⟩),fun _ _ _ _=>by unfold C0 C1;rw [if_neg h5,if_neg h5,if_neg h6,if_neg h6];exact ⟨rfl,rfl⟩⟩
 ·have e:(decide (1≤d)&&decide (d≤5))=false:=by
   cases hq:(decide (1≤d)&&decide (d≤5))
   ·rfl
   ·rw [Bool.and_eq_true,decide_eq_true_eq,decide_eq_true_eq] at hq;exact absurd hq hd
  rw [e];exact ⟨_,_,rfl,rfl,(fun _=>⟨rfl,rfl⟩),(fun _ h1 h2=>absurd ⟨h1,h2⟩ hd),(fun _ h1 h2=>absurd ⟨h1,h2⟩ hd)⟩
end Go.TM
set_option linter.unusedSimpArgs false
set_option linter.unusedVariables false
namespace Go.TM
open Go
theorem HI (d:Int) (xs:List (Int×Unit)) (h:xs.length≤1048576):fO xs d=some (decide (d∈bw xs),()):=by
 obtain ⟨e,he,hq⟩:=cL (round:=cO) (x:=(xs,d,((0:Nat):Int),())) xs.length (fun k x=>x=(xs,d,((k:Nat):Int),())∧d∉bw (xs.take k)) (fun e=>(e=.inl ()∧d∉bw xs)∨(e=.inr (true,())∧d∈bw xs)) (by
   rintro x ⟨rfl,g⟩
   rw [List.take_length] at g;exact ⟨.inl (),by simp only [cO,iR,aD,cond_false],.inl ⟨rfl,g⟩⟩) (by
   rintro k x hk ⟨rfl,g⟩
   simp only [cO,iR,az hk,aw,cond_true,aC,List.getElem?_eq_getElem hk,Option.bind_some,aE (show k<4611686018427387904 by omega)]
   by_cases e:xs[k].1=d
   ·rw [aj e];exact .inl ⟨_,rfl,.inr ⟨rfl,by rw [←e];exact List.mem_map_of_mem (List.getElem_mem hk)⟩⟩
   ·rw [aq e];refine .inr ⟨_,rfl,rfl,?_⟩;rw [List.take_succ_eq_append_getElem hk];unfold bw at g ⊢;rw [List.map_append,List.mem_append]
    rintro (h1 | h1)
    ·exact g h1
    ·simp only [List.map_cons,List.map_nil,List.mem_singleton] at h1;exact e h1.symm) ⟨rfl,by simp [bw]⟩
 have he:aF cO (xs,d,(0:Int),())=some e:=he;unfold fO;rw [he];rcases hq with ⟨rfl,g⟩ | ⟨rfl,g⟩
 ·rw [aq g];rfl
 ·rw [aj g];rfl
theorem HJ (d:Int) (xs:List (Int×Unit)) (h:xs.length≤1048576):eC xs d=some (decide (d∈bw xs),()):=by
 obtain ⟨b,h1,h2⟩:=yR d xs h;rw [HI d xs h] at h1;injection h1 with h1;injection h1 with h1 _;rw [h2,h1]
def hasB (list:aW) (s:Int):Bool:=(dL list s).isSome
theorem xQ (o:Option dv):(pn o).2.2.2.2.1=o.isSome:=by cases o<;>rfl
def HK {B C:Type} (list:aW) (u:Int):Sum ((List (Int×Unit))×Unit) B→Sum ((List (Int×Unit))×Unit) C→Prop
 |.inl a,.inl b=>a=b∧∃ms:List Int,a.1=aY ms∧ms.length≤20∧∀s∈ms,1≤s∧s≤u∧hasB list s=false
 |_,_=>False
theorem Bn (list:aW) (upto u:Int) (n:Nat) (h:list.length≤1048576) (hn:n≤1048576) (hu:(if (60:Int)<upto then (60:Int) else upto)=u) (apy:u≤60) :
  ∃e f,aF fQ (list,u,[],((n+1:Nat):Int),())=some e∧aF iA (list,upto,[],((n+1:Nat):Int),())=some f∧HK list u e f:=by
 refine nm 61 (fun k x y=>∃ms:List Int,x=(list,u,aY ms,((n+1+k:Nat):Int),())∧y=(list,upto,aY ms,((n+1+k:Nat):Int),())∧ms.length≤20∧∀s∈ms,1≤s∧s≤u∧hasB list s=false) (HK list u) ?_ ⟨[],rfl,rfl,by simp,fun s hs=>by cases hs⟩
 rintro k x y hk ⟨ms,rfl,rfl,q1,q2⟩
 have stop:HK (B:=Unit) (C:=Unit) list u (.inl (aY ms,())) (.inl (aY ms,())):=⟨rfl,ms,rfl,q1,q2⟩
 by_cases cA:((n+1+k:Nat):Int)≤u
 case neg=>
  refine .inl ⟨.inl (aY ms,()),.inl (aY ms,()),?_,?_,⟨rfl,ms,rfl,q1,q2⟩⟩
  ·simp only [fQ,mA,aq cA,cond_false]
  ·simp only [iA,mB,hu,aq cA,cond_false]
 by_cases Uy:((List.length (aY ms):Nat):Int)<20
 case neg=>
  refine .inl ⟨.inl (aY ms,()),.inl (aY ms,()),?_,?_,⟨rfl,ms,rfl,q1,q2⟩⟩
  ·simp only [fQ,mA,aj cA,aq Uy,cond_true,cond_false]
  ·simp only [iA,mB,hu,aj cA,aq Uy,cond_true,cond_false]
 have hl:(aY ms).length=ms.length:=cu ms;simp only [fQ,mA,iA,mB,hu,aj cA,aj Uy,cond_true,td list _ h,tf list _ h,Option.bind_some,xQ,aQ (show ((aY ms).length+1)*8≤lim by unfold lim;omega),aE (show n+1+k<4611686018427387904 by omega)]
 cases hh:(dL list ((n+1+k:Nat):Int)).isSome
 ·refine .inr ⟨by omega,_,_,rfl,rfl,ms++[((n+1+k:Nat):Int)],by simp [aY];omega,by simp [aY];omega,by simp;omega,fun s hs => ?_⟩;rcases List.mem_append.1 hs with hs | hs
  ·exact q2 s hs
  ·rw [List.mem_singleton] at hs;subst hs;exact ⟨by omega,by omega,hh⟩
 ·exact .inr ⟨by omega,_,_,rfl,rfl,ms,by rw [show n+1+k+1=n+1+(k+1) by omega],by rw [show n+1+k+1=n+1+(k+1) by omega],q1,q2⟩
theorem Jo (list:aW) (upto:Int) (h:list.length≤1048576):∃ms:List Int,nB list upto=some (aY ms,())∧nH list upto=some (aY ms,())∧ms.length≤20∧∀s∈ms,1≤s∧(s≤60∧s≤upto)∧hasB list s=false:=by
 obtain ⟨n,a1,a2,a3,_⟩:=ER list h;have hw:IntKind.i64.wrap (((n:Nat):Int)+(1:Int))=((n+1:Nat):Int):=aE (by omega);unfold nB nH;simp only [a1,a2,Option.bind_some,hw]
 by_cases hu:(60:Int)<upto
 ·obtain ⟨e,f,g1,g2,g3⟩:=Bn list upto 60 n h (by omega) (if_pos hu) (by omega);rw [aj hu];simp only [cond_true,g1,g2]
  cases e with
  |inr e=>exact g3.elim
  |inl e=>cases f with
   |inr f=>exact g3.elim
   |inl f=>
    obtain ⟨rfl,ms,k1,k2,k3⟩:=g3;simp only [cW];exact ⟨ms,by rw [k1],by rw [k1],k2,fun s hs=>⟨(k3 s hs).1,⟨(k3 s hs).2.1,by have:=(k3 s hs).2.1;omega⟩,(k3 s hs).2.2⟩⟩
 ·obtain ⟨e,f,g1,g2,g3⟩:=Bn list upto upto n h (by omega) (if_neg hu) (by omega);rw [aq hu];simp only [cond_false,g1,g2]
  cases e with
  |inr e=>exact g3.elim
  |inl e=>cases f with
   |inr f=>exact g3.elim
   |inl f=>
    obtain ⟨rfl,ms,k1,k2,k3⟩:=g3;simp only [cW];exact ⟨ms,by rw [k1],by rw [k1],k2,fun s hs=>⟨(k3 s hs).1,⟨by have:=(k3 s hs).2.1;omega,(k3 s hs).2.1⟩,(k3 s hs).2.2⟩⟩
theorem EY:∀(a b:List Int),a.Pairwise (· < ·)→b.Pairwise (· < ·)→(∀x,x∈a↔x∈b)→a=b
 | [],[],_,_,_=>rfl
 | [],y::b,_,_,h=>absurd ((h y).2 List.mem_cons_self) (by simp)
 |x::a,[],_,_,h=>absurd ((h x).1 List.mem_cons_self) (by simp)
 |x::a,y::b,ha,hb,h=>by
  rw [List.pairwise_cons] at ha hb;have hxy:x=y:=by
   rcases List.mem_cons.1 ((h x).1 List.mem_cons_self) with e | e
   ·exact e
   ·have h1:=hb.1 x e;rcases List.mem_cons.1 ((h y).2 List.mem_cons_self) with e2 | e2
    ·exact e2.symm
    ·have h2:=ha.1 y e2;omega
  subst hxy
  congr 1
  refine EY a b ha.2 hb.2 fun z=>⟨fun hz => ?_,fun hz => ?_⟩
  ·rcases List.mem_cons.1 ((h z).1 (List.mem_cons_of_mem _ hz)) with e | e
   ·have:=ha.1 z hz;omega
   ·exact e
  ·rcases List.mem_cons.1 ((h z).2 (List.mem_cons_of_mem _ hz)) with e | e
   ·have:=hb.1 z hz;omega
   ·exact e
theorem Tp (l:List Int):(l.mergeSort fun x y=>decide (x≤y)).Pairwise (· ≤ ·):=by
 have:=List.pairwise_mergeSort (le:=fun x y:Int=>decide (x≤y)) (fun a b c h1 h2=>by simp only [decide_eq_true_eq] at *;omega) (fun a b=>by simp only [Bool.or_eq_true,decide_eq_true_eq];omega) l;exact this.imp fun h=>by simpa using h
theorem Rm (l:List Int) (x:Int):x∈(l.mergeSort fun x y=>decide (x≤y))↔x∈l:=(List.mergeSort_perm l _).mem_iff
theorem uA (l:List Int) (j:Nat) (h:j<l.length):l.toArray[j]! = l[j]:=by
 rw [getElem!_pos l.toArray j (by simpa using h)];simp
theorem EZ (l:List Int) (h:l.Pairwise (· ≤ ·)):(Lib.compact l).Pairwise (· < ·):=by
 unfold Lib.compact Lib.compactUpTo;rw [List.pairwise_map];have hr:((List.range l.length).filter (Lib.keeps l.toArray)).Pairwise (· < ·):=List.Pairwise.filter _ List.pairwise_lt_range;refine hr.imp_of_mem fun {i j} hi hj hij => ?_
 obtain ⟨hi1,_⟩:=List.mem_filter.1 hi;obtain ⟨RI,Qo⟩:=List.mem_filter.1 hj;have hi1:=List.mem_range.1 hi1;have RI:=List.mem_range.1 RI;have hk:l.toArray[j]! ≠ l.toArray[j-1]! := by
  unfold Lib.keeps at Qo;rw [decide_eq_true_eq] at Qo;exact Qo.resolve_left (by omega)
 have hp:=List.pairwise_iff_getElem.1 h;have h1:=hp (j-1) j (by omega) RI (by omega);rw [uA l j RI,uA l (j-1) (by omega)] at hk;rw [uA l i hi1,uA l j RI]
 by_cases e:i=j-1
 ·subst e;omega
 ·have h2:=hp i (j-1) hi1 (by omega) (by omega);omega
theorem Jp (l:List Int) (x:Int):x∈Lib.compact l↔x∈l:=by
 unfold Lib.compact Lib.compactUpTo;rw [List.mem_map]
 constructor
 ·rintro ⟨j,hj,rfl⟩
  have RI:=List.mem_range.1 (List.mem_filter.1 hj).1;rw [uA l j RI];exact List.getElem_mem RI
 ·intro hx;have key:∀j,j<l.length→∃i,i∈(List.range l.length).filter (Lib.keeps l.toArray)∧l.toArray[i]! = l.toArray[j]! := by
   intro j
   induction j with
   |zero=>intro h0;exact ⟨0,List.mem_filter.2 ⟨List.mem_range.2 h0,by simp [Lib.keeps]⟩,rfl⟩
   |succ j ih=>
    intro hj
    by_cases e:l.toArray[j+1]! = l.toArray[j]!
    ·obtain ⟨i,h1,h2⟩:=ih (by omega);exact ⟨i,h1,by rw [h2,e]⟩
    ·exact ⟨j+1,List.mem_filter.2 ⟨List.mem_range.2 hj,by unfold Lib.keeps;rw [decide_eq_true_eq,Nat.add_sub_cancel];exact .inr e⟩,rfl⟩
  obtain ⟨j,hj,rfl⟩:=List.mem_iff_getElem.1 hx;obtain ⟨i,h1,h2⟩:=key j hj;exact ⟨i,h1,by rw [h2,uA l j hj]⟩
def ints (n:Nat):List Int:=(List.range n).map fun i=>((i+1:Nat):Int)
theorem GR (n:Nat):ints (n+1)=ints n++[((n+1:Nat):Int)]:=by
 unfold ints;rw [List.range_succ,List.map_append];rfl
theorem Rn (n:Nat) (x:Int):x∈ints n↔1≤x∧x≤((n:Nat):Int):=by
 unfold ints;rw [List.mem_map]
 constructor
 ·rintro ⟨i,hi,rfl⟩
  have:=List.mem_range.1 hi;omega
 ·rintro ⟨h1,h2⟩
  exact ⟨(x-1).toNat,List.mem_range.2 (by omega),by omega⟩
theorem C2 (n:Nat):(ints n).Pairwise (· < ·):=by
 unfold ints;rw [List.pairwise_map];exact List.pairwise_lt_range.imp fun h=>by omega
theorem E0:∀(k d:Nat),∃r,ints (k+d)=ints k++r
 |k,0=>⟨[],by simp⟩
 |k,d+1=>by
  obtain ⟨r,h⟩:=E0 k d;exact ⟨r++[((k+d+1:Nat):Int)],by rw [show k+(d+1)=(k+d)+1 by omega,GR,h,List.append_assoc]⟩
theorem Lh (a b:List Int):aY (a++b)=aY a++aY b:=by simp [aY]
theorem Jq (a:List Int) (n:Nat):aY (a.take n)=(aY a).take n:=by simp [aY,List.map_take]
theorem po (a:List Int):bw (aY a)=a:=by simp [bw,aY,Function.comp_def]
def gq (list:aW) (xs:List (Int×Unit)) (ms:List Int) (s:Int):Bool:=(!hasB list s&&decide (s∈bw xs))||decide (s∈ms)
def kn (list:aW) (xs:List (Int×Unit)) (ms:List Int):List Int:=((ints 60).filter (gq list xs ms)).take 20
abbrev Uz:Type:=aW×Int×Int×Int×Int×Int×(List (Int×Unit))×Int×Int×Int×Int×Int×(List (Int×Unit))×Int×Int×Int×Int×Int×(List (Int×Unit))×(List (Int×Unit))×Int×Unit
theorem Li (t0 t1 t2 t3 t4:Int) (xs:List (Int×Unit)) (list:aW) (ms:List Int) (h:list.length≤1048576) (hx:xs.length≤1048576) (hm:nB list t2=some (aY ms,())) (hms:ms.length≤20) :
  gV t0 t1 t2 t3 t4 xs list=some (t0,t1,t2,t3,t4,aY (kn list xs ms),()):=by
 have Pf:(aY ms).length≤1048576:=by rw [cu];omega
 obtain ⟨e,he,rfl⟩:=cL (round:=kr) (x:=(list,t0,t1,t2,t3,t4,xs,(0:Int),(0:Int),(0:Int),(0:Int),(0:Int),[],t0,t1,t2,t3,t4,[],aY ms,((0+1:Nat):Int),())) 60
  (fun k x=>x=(list,t0,t1,t2,t3,t4,xs,(0:Int),(0:Int),(0:Int),(0:Int),(0:Int),[],t0,t1,t2,t3,t4,aY ((ints k).filter (gq list xs ms)),aY ms,((k+1:Nat):Int),())∧((ints k).filter (gq list xs ms)).length≤20)
  (fun e=>e=.inl ((0:Int),(0:Int),(0:Int),(0:Int),(0:Int),[],t0,t1,t2,t3,t4,aY (kn list xs ms),())) (by
   rintro x ⟨rfl,g⟩
   refine ⟨_,?_,rfl⟩;simp only [kr,o9,aq (show ¬((60+1:Nat):Int)≤(60:Int) by omega),cond_false];unfold kn;rw [List.take_of_length_le g]) (by
   rintro k x hk ⟨rfl,g⟩
   have hle:((k+1:Nat):Int)≤(60:Int):=by omega
   have hl:=cu ((ints k).filter (gq list xs ms))
   by_cases Uy:((List.length (aY ((ints k).filter (gq list xs ms))):Nat):Int)<20
   case neg=>
    refine .inl ⟨_,?_,rfl⟩;simp only [kr,o9,aj hle,aq Uy,cond_true,cond_false];have:kn list xs ms=(ints k).filter (gq list xs ms):=by
     unfold kn;obtain ⟨r,hr⟩:=E0 k (60-k);rw [show k+(60-k)=60 by omega] at hr;rw [hr,List.filter_append];exact List.take_left' (by omega)
    rw [this]
   have GS:(ints (k+1)).filter (gq list xs ms)=(ints k).filter (gq list xs ms)++(if gq list xs ms ((k+1:Nat):Int) then [((k+1:Nat):Int)] else []):=by
    rw [GR,List.filter_append];rw [List.filter_cons,List.filter_nil]
   have ak5:=HI ((k+1:Nat):Int) xs hx;have aeP:=HI ((k+1:Nat):Int) (aY ms) Pf;rw [po] at aeP;have hb:Nat.ble (((aY ((ints k).filter (gq list xs ms))).length+1)*8) lim=true:=aQ (by unfold lim;omega);have hsw:=aE (show k+1<4611686018427387904 by omega);simp only [kr,o9,aj hle,aj Uy,cond_true,td list _ h,Option.bind_some,xQ,ak5,aeP,hb,hsw];have yes:gq list xs ms ((k+1:Nat):Int)=true→∃x':Uz,x'=(list,t0,t1,t2,t3,t4,xs,(0:Int),(0:Int),(0:Int),(0:Int),(0:Int),[],t0,t1,t2,t3,t4,aY ((ints k).filter (gq list xs ms))++[(((k+1:Nat):Int),())],aY ms,((k+1+1:Nat):Int),())∧
     (x'=(list,t0,t1,t2,t3,t4,xs,(0:Int),(0:Int),(0:Int),(0:Int),(0:Int),[],t0,t1,t2,t3,t4,aY ((ints (k+1)).filter (gq list xs ms)),aY ms,((k+1+1:Nat):Int),())∧((ints (k+1)).filter (gq list xs ms)).length≤20):=by
    intro hp;refine ⟨_,rfl,?_,?_⟩
    ·rw [GS,hp,if_pos rfl,Lh];rfl
    ·rw [GS,hp,if_pos rfl,List.length_append];simp;omega
   have no:gq list xs ms ((k+1:Nat):Int)=false→∃x':Uz,x'=(list,t0,t1,t2,t3,t4,xs,(0:Int),(0:Int),(0:Int),(0:Int),(0:Int),[],t0,t1,t2,t3,t4,aY ((ints k).filter (gq list xs ms)),aY ms,((k+1+1:Nat):Int),())∧
     (x'=(list,t0,t1,t2,t3,t4,xs,(0:Int),(0:Int),(0:Int),(0:Int),(0:Int),[],t0,t1,t2,t3,t4,aY ((ints (k+1)).filter (gq list xs ms)),aY ms,((k+1+1:Nat):Int),())∧((ints (k+1)).filter (gq list xs ms)).length≤20):=by
    intro hp;refine ⟨_,rfl,?_,?_⟩
    ·rw [GS,hp];simp
    ·rw [GS,hp];simp;omega
   have HL:gq list xs ms ((k+1:Nat):Int)=((!(dL list ((k+1:Nat):Int)).isSome&&decide (((k+1:Nat):Int)∈bw xs))||decide (((k+1:Nat):Int)∈ms)):=rfl
   cases c1:(dL list ((k+1:Nat):Int)).isSome
   ·cases c2:decide (((k+1:Nat):Int)∈bw xs)
    ·cases c3:decide (((k+1:Nat):Int)∈ms)
     ·obtain ⟨x',g1,g2⟩:=no (by rw [HL,c1,c2,c3];rfl);exact .inr ⟨x',by rw [g1];rfl,g2⟩
     ·obtain ⟨x',g1,g2⟩:=yes (by rw [HL,c1,c2,c3];rfl);exact .inr ⟨x',by rw [g1];rfl,g2⟩
    ·obtain ⟨x',g1,g2⟩:=yes (by rw [HL,c1,c2];rfl);exact .inr ⟨x',by rw [g1];rfl,g2⟩
   ·cases c3:decide (((k+1:Nat):Int)∈ms)
    ·obtain ⟨x',g1,g2⟩:=no (by rw [HL,c1,c3];rfl);exact .inr ⟨x',by rw [g1];rfl,g2⟩
    ·obtain ⟨x',g1,g2⟩:=yes (by rw [HL,c1,c3];rfl);exact .inr ⟨x',by rw [g1];rfl,g2⟩) ⟨rfl,by simp [ints]⟩
 unfold gV;rw [hm];simp only [Option.bind_some];rw [show (1:Int)=((0+1:Nat):Int) from rfl,he];rfl
def qA (list:aW) (s:Int):Bool := !hasB list s&&(decide (1≤s)&&decide (s≤60))
theorem Lj (t0 t1 t2 t3 t4:Int) (xs:List (Int×Unit)) (list:aW) (ms:List Int) (h:list.length≤1048576) (hx:xs.length≤1048576) (hm:nH list t2=some (aY ms,())) (hms:ms.length≤20) (hmp:∀s∈ms,1≤s∧s≤60∧hasB list s=false) :
  vQ t0 t1 t2 t3 t4 xs list=some (t0,t1,t2,t3,t4,aY (kn list xs ms),()):=by
 have Mo:=bI (round:=ky) (e:=.inl ((0:Int),(0:Int),(0:Int),(0:Int),(0:Int),[],t0,t1,t2,t3,t4,xs,aY (ms++(bw xs).filter (qA list)),())) xs.length
  (fun k=>(list,(0:Int),(0:Int),(0:Int),(0:Int),(0:Int),[],t0,t1,t2,t3,t4,xs,aY (ms++(bw (xs.take k)).filter (qA list)),xs,((List.length xs:Nat):Int),((k:Nat):Int),())) (by
   simp only [ky,tK,aD,cond_false,List.take_length]) (fun k hk=>by
   have hfl:((bw (xs.take k)).filter (qA list)).length≤1048576:=by
    have h1:=List.length_filter_le (qA list) (bw (xs.take k));have h2:=iQ (xs.take k);rw [List.length_take] at h2;omega
   have hl:=cu (ms++(bw (xs.take k)).filter (qA list));rw [List.length_append] at hl;have GS:(bw (xs.take (k+1))).filter (qA list)=(bw (xs.take k)).filter (qA list)++(if qA list xs[k].1 then [xs[k].1] else []):=by
    rw [List.take_succ_eq_append_getElem hk];unfold bw;rw [List.map_append,List.filter_append,List.map_cons,List.map_nil,List.filter_cons,List.filter_nil]
   have HL:qA list xs[k].1=(!(dL list xs[k].1).isSome&&(decide (1≤xs[k].1)&&decide (xs[k].1≤60))):=rfl;simp only [ky,tK,az hk,aw,cond_true,aC,List.getElem?_eq_getElem hk,Option.bind_some,tf list _ h,xQ,wa,aQ (show ((aY (ms++(bw (xs.take k)).filter (qA list))).length+1)*8≤lim by unfold lim;omega),aE (show k<4611686018427387904 by omega),GS]
   cases c1:(dL list xs[k].1).isSome
   ·cases c2:(decide (1≤xs[k].1)&&decide (xs[k].1≤60))
    ·rw [HL,c1,c2];simp
    ·rw [HL,c1,c2];simp [aY]
   ·rw [HL,c1];simp)
 have Mo:aF ky (list,(0:Int),(0:Int),(0:Int),(0:Int),(0:Int),[],t0,t1,t2,t3,t4,xs,aY (ms++(bw (xs.take 0)).filter (qA list)),xs,((List.length xs:Nat):Int),(0:Int),())=_:=Mo;rw [show ms++(bw (xs.take 0)).filter (qA list)=ms by simp [bw]] at Mo;have c2:cM t0 t1 t2 t3 t4 xs=some (t0,t1,t2,t3,t4,xs,()):=by
  unfold cM;rw [re xs hx];rfl
 have hwl:(ms++(bw xs).filter (qA list)).length≤1048576+20:=by
  rw [List.length_append];have h1:=List.length_filter_le (qA list) (bw xs);have h2:=iQ xs;omega
 generalize hW:ms++(bw xs).filter (qA list)=W at *;have aeQ:En (aY W)=some (aY (W.mergeSort fun x y=>decide (x≤y)),()):=by
  unfold En;rw [aQ (show (aY W).length≤lim by rw [cu];unfold lim;omega),po];rfl
 have UA:np (aY (W.mergeSort fun x y=>decide (x≤y)))=some (aY (Lib.compact (W.mergeSort fun x y=>decide (x≤y))),()):=by
  unfold np;rw [aQ (show (aY (W.mergeSort fun x y=>decide (x≤y))).length≤lim by rw [cu,List.length_mergeSort];unfold lim;omega),po];rfl
 have hC:Lib.compact (W.mergeSort fun x y=>decide (x≤y))=(ints 60).filter (gq list xs ms):=by
  refine EY _ _ (EZ _ (Tp W)) ((C2 60).filter _) fun z => ?_
  rw [Jp,Rm,←hW,List.mem_append,List.mem_filter,List.mem_filter,Rn];unfold qA gq;simp only [Bool.and_eq_true,Bool.or_eq_true,decide_eq_true_eq,Bool.not_eq_true']
  constructor
  ·rintro (h1 | ⟨h1,h2,h3,h4⟩)
   ·exact ⟨⟨(hmp z h1).1,(hmp z h1).2.1⟩,.inr h1⟩
   ·exact ⟨⟨h3,h4⟩,.inl ⟨h2,h1⟩⟩
  ·rintro ⟨⟨h3,h4⟩,⟨h2,h1⟩ | h1⟩
   ·exact .inr ⟨h1,h2,h3,h4⟩
   ·exact .inl h1
 rw [hC] at UA;have hCl:((ints 60).filter (gq list xs ms)).length≤60:=Nat.le_trans (List.length_filter_le _ _) (by simp [ints]);have ak6:(if (20:Int)<((List.length (aY ((ints 60).filter (gq list xs ms))):Nat):Int) then (20:Int) else ((List.length (aY ((ints 60).filter (gq list xs ms))):Nat):Int))=((min 20 ((ints 60).filter (gq list xs ms)).length:Nat):Int):=by
  rw [cu]
  split<;>omega
 have aeR:List.take (min 20 ((ints 60).filter (gq list xs ms)).length) (aY ((ints 60).filter (gq list xs ms)))=aY (kn list xs ms):=by
  unfold kn;rw [Jq]
  by_cases Uy:20≤((ints 60).filter (gq list xs ms)).length
  ·rw [Nat.min_eq_left Uy]
  ·rw [Nat.min_eq_right (by omega),List.take_of_length_le (by rw [cu];omega),List.take_of_length_le (by rw [cu];omega)]
 have mP:=re (aY (kn list xs ms)) (by rw [cu];unfold kn;rw [List.length_take];omega);unfold vQ;rw [c2,hm];simp only [Option.bind_some];rw [Mo];simp only [cW,aeQ,UA,Option.bind_some,ak6,aw,cond_true,aC,List.drop_zero,aeR,mP,aj (show ((min 20 ((ints 60).filter (gq list xs ms)).length:Nat):Int)≤((List.length (aY ((ints 60).filter (gq list xs ms))):Nat):Int) by rw [cu];omega)]
end Go.TM
set_option linter.unusedSimpArgs false
set_option linter.unusedVariables false
namespace Go.TM
open Go
theorem Mp {xs:aW} {s:Int}:hasB xs s=true↔∃r∈xs,r.1=s:=by
 unfold hasB dL;rw [List.find?_isSome];simp only [decide_eq_true_eq]
theorem Cm {r m:dv}:{xs:aW}→r∈xs→r∈pM xs m
 | [],h=>by cases h
 |x::xs,h=>by
  unfold pM
  split
  ·rcases List.mem_cons.1 h with rfl | h
   ·exact List.mem_cons_self
   ·exact List.mem_cons_of_mem _ (Cm h)
  ·split
   ·exact h
   ·exact List.mem_cons_of_mem _ h
theorem Jr {xs ys:aW} (hx:xs.length≤1048576) (hy:ys.length≤1048576) (h:∀r∈xs,∃q∈ys,q.1=r.1):dw xs≤dw ys:=by
 obtain ⟨_,a1,_⟩:=(Cj xs hx).2.2;obtain ⟨_,_,b2⟩:=(Cj ys hy).2.2
 by_cases cA:dw ys<dw xs
 ·have h1:=a1 _ cA;obtain ⟨r,hr,e⟩:=Mp.1 h1;obtain ⟨q,hq,e2⟩:=h r hr;have:hasB ys ((dw ys+1:Nat):Int)=true:=Mp.2 ⟨q,hq,e2.trans e⟩;unfold hasB at this;rw [b2] at this
  cases this
 ·omega
def bQ (xs:aW) (fs:aW):aW:=fs.foldl pM xs
theorem qV:(fs:aW)→{xs:aW}→ik xs xs.length→(∀f∈fs,nW f)→ik (bQ xs fs) (bQ xs fs).length
 | [],_,h,_=>h
 |f::fs,_,h,hf=>qV fs (EX h (hf f List.mem_cons_self)) fun g hg=>hf g (List.mem_cons_of_mem _ hg)
theorem C3 {r:dv}:(fs:aW)→{xs:aW}→r∈xs→r∈bQ xs fs
 | [],_,h=>h
 |_::fs,_,h=>C3 fs (Cm h)
theorem Lk {c2 d:Int} {lv:km} {tx:List (ByteArray×Unit)} {k j:Nat} (hc:0≤c2∧c2+((k:Nat):Int)≤60) (hd:1≤d∧d≤5) (hk:k≤tx.length) (hs:jd tx tx.length) (hj:j<k):nW (yu c2 d lv tx j):=by
 have h1:j<tx.length:=by omega
 have hgt:(tx.getD j (ByteArray.empty,())).1=tx[j].1:=by rw [List.getD_eq_getElem?_getD,List.getElem?_eq_getElem h1,Option.getD_some]
 refine ⟨⟨?_,?_⟩,hd,?_,?_⟩
 ·show 1≤c2+((j+1:Nat):Int);omega
 ·show c2+((j+1:Nat):Int)≤60;omega
 ·show 1≤(bif decide (j<lv.length)&&decide ((lv.getD j ((0:Int),())).1=2) then (2:Int) else 1)∧(bif decide (j<lv.length)&&decide ((lv.getD j ((0:Int),())).1=2) then (2:Int) else 1)≤2
  cases decide (j<lv.length)&&decide ((lv.getD j ((0:Int),())).1=2)<;>decide
 ·show ByteArray.size (tx.getD j (ByteArray.empty,())).1≤60;rw [hgt];exact hs j h1 h1
theorem C4 {c2 d:Int} {lv:km} {tx:List (ByteArray×Unit)} {k:Nat} (hc:0≤c2∧c2+((k:Nat):Int)≤60) (hd:1≤d∧d≤5) (hk:k≤tx.length) (hs:jd tx tx.length):∀f∈dI c2 d lv tx k,nW f:=by
 intro f hf;unfold dI at hf;obtain ⟨j,hj,rfl⟩:=List.mem_map.1 hf;exact Lk hc hd hk hs (List.mem_range.1 hj)
def th (t:oN) (xs:aW):aW:=xs.filter fun r=>decide (r.1∈bw t.q.1)
theorem Ro (t:oN) (xs:aW) (h:xs.length≤1048576) (hw:t.q.1.length≤1048576):yh t.1 t.2.1 t.2.2.1 t.2.2.2.1 t.2.2.2.2.1 t.q.1 xs=some (th t xs,())∧yn t.1 t.2.1 t.2.2.1 t.2.2.2.1 t.2.2.2.2.1 t.q.1 xs=some (th t xs,()):=by
 have hlen:∀k,((xs.take k).filter fun r=>decide (r.1∈bw t.q.1)).length≤k:=fun k=>Nat.le_trans (List.length_filter_le _ _) (List.length_take_le _ _)
 constructor
 ·have hl:=bI (round:=lD) (e:=.inl (th t xs,())) xs.length (fun k=>(xs,t.1,t.2.1,t.2.2.1,t.2.2.2.1,t.2.2.2.2.1,t.q.1,(xs.take k).filter (fun r=>decide (r.1∈bw t.q.1)),((k:Nat):Int),())) (by
   simp only [lD,vg,aD,cond_false,List.take_length,th]) (fun k hk=>by
   have qw:=hlen k;simp only [lD,vg,az hk,aw,cond_true,aC,List.getElem?_eq_getElem hk,Option.bind_some,HI _ _ hw,aQ (show (((xs.take k).filter fun r=>decide (r.1∈bw t.q.1)).length+1)*40≤lim by unfold lim;omega),aE (show k<4611686018427387904 by omega)];rw [List.take_succ_eq_append_getElem hk,List.filter_append]
   cases hp:decide (xs[k].1∈bw t.q.1)
   ·rw [List.filter_cons_of_neg (by rw [hp];simp)];simp
   ·rw [List.filter_cons_of_pos (by rw [hp])];rfl)
  have hl:aF lD (xs,t.1,t.2.1,t.2.2.1,t.2.2.2.1,t.2.2.2.2.1,t.q.1,[],(0:Int),())=_:=hl;unfold yh;rw [hl];rfl
 ·have hl:=bI (round:=lG) (e:=.inl (th t xs,())) xs.length (fun k=>(t.1,t.2.1,t.2.2.1,t.2.2.2.1,t.2.2.2.2.1,t.q.1,(xs.take k).filter (fun r=>decide (r.1∈bw t.q.1)),xs,((List.length xs:Nat):Int),((k:Nat):Int),())) (by
   simp only [lG,vP,aD,cond_false,List.take_length,th]) (fun k hk=>by
   have qw:=hlen k;simp only [lG,vP,az hk,aw,cond_true,aC,List.getElem?_eq_getElem hk,Option.bind_some,HJ _ _ hw,aQ (show (((xs.take k).filter fun r=>decide (r.1∈bw t.q.1)).length+1)*40≤lim by unfold lim;omega),aE (show k<4611686018427387904 by omega)];rw [List.take_succ_eq_append_getElem hk,List.filter_append]
   cases hp:decide (xs[k].1∈bw t.q.1)
   ·rw [List.filter_cons_of_neg (by rw [hp];simp)];simp
   ·rw [List.filter_cons_of_pos (by rw [hp])];rfl)
  have hl:aF lG (t.1,t.2.1,t.2.2.1,t.2.2.2.1,t.2.2.2.2.1,t.q.1,[],xs,((List.length xs:Nat):Int),(0:Int),())=_:=hl;unfold yn;rw [hl];rfl
theorem Rp {t:oN} {xs:aW} {r:dv} (h:r∈th t xs):r∈xs:=(List.mem_filter.1 h).1
theorem E1 (t:oN) (xs:aW):(th t xs).length≤xs.length:=List.length_filter_le _ _
end Go.TM
