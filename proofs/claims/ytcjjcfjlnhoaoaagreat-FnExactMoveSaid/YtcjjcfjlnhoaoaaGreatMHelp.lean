/- Sizes, copies, sameness: what the laws' own helping functions answer. -/
import Derived.Test.YtcjjcfjlnhoaoaaGreatMF2
set_option linter.unusedSimpArgs false
set_option linter.unusedVariables false
namespace Go.TM
open Go
theorem _root_.And.q {A B C D E F:Prop} (x:A∧B∧C∧D∧E∧F):F:=x.2.2.2.2.2
def A6 (x:Int×Unit):Prop:=(-9223372036854775808≤x.1∧x.1<9223372036854775808)∧True
theorem Uo {x:Int×Unit} (h:yt fX x):A6 x:=⟨fm (aa.1 h).1,trivial⟩
def dk (_:Int×Unit):Nat:=0
theorem A7 (a0:aH) {left:Int} (hz:List.length a0≤9223372036854775807∧∀y∈a0,A6 y) (h0:0≤left) (h1:left≤1048576):Left (ln a0 left) (List.length a0+wl dk a0) left:=by
 obtain ⟨hlen,Ls⟩:=hz;unfold ln;rw [ef (by omega) (by omega)]
 by_cases hd:left-((List.length a0:Nat):Int)<0
 ·rw [ak hd];exact ⟨-1,rfl,by omega,by omega⟩
 rw [aq hd];simp only [cond_false];have hw:wl dk a0=0:=qF _ (fun _=>rfl) _;exact ⟨_,rfl,by omega,by intro;omega⟩
def OY (x:Int×aH×Unit):Prop:=(-9223372036854775808≤x.1∧x.1<9223372036854775808)∧(List.length x.2.1≤9223372036854775807∧∀y∈x.2.1,A6 y)∧True
def IU (x:Int×aH×Unit):Nat:=(List.length x.2.1+wl dk x.2.1)
theorem A8 (bf:Int) (aQ:aH) {left:Int} (hz:OY (bf,aQ,())) (h0:0≤left) (h1:left≤1048576):Left (jU bf aQ left) (IU (bf,aQ,())) left:=by
 have hz:(-9223372036854775808≤bf∧bf<9223372036854775808)∧(List.length aQ≤9223372036854775807∧∀y∈aQ,A6 y)∧True:=hz;show Left _ ((List.length aQ+wl dk aQ)) left;obtain ⟨z0,z1,_⟩:=hz;unfold jU;obtain ⟨m1,e1,l1,w1⟩:=A7 aQ (left:=left) z1 (by omega) (by omega);rw [e1];simp only [Option.bind_some]
 by_cases Pw:m1<0
 ·rw [ak Pw];exact ⟨-1,rfl,by omega,by omega⟩
 rw [aq Pw];simp only [cond_false];have w1:=w1 (by omega);exact ⟨_,rfl,by omega,by intro;omega⟩
def ur (x:nd):Prop:=(-9223372036854775808≤x.1∧x.1<9223372036854775808)∧(-9223372036854775808≤x.2.1∧x.2.1<9223372036854775808)∧(-9223372036854775808≤x.2.2.1∧x.2.2.1<9223372036854775808)∧(ByteArray.size x.2.2.2.1≤9223372036854775807)∧True
theorem OZ {x:nd} (h:yt aD x):ur x:=⟨fm (aa.1 h).1,fm (aa.1 (aa.1 h).2).1,fm (aa.1 (aa.1 (aa.1 h).2).2).1,Il (aa.1 (aa.1 (aa.1 (aa.1 h).2).2).2).1,trivial⟩
def bJ (x:nd):Nat:=ByteArray.size x.2.2.2.1
theorem Kl (bf:Int) (aQ:Int) (aS:Int) (aO:ByteArray) {left:Int} (hz:ur (bf,aQ,aS,aO,())) (h0:0≤left) (h1:left≤1048576):Left (pQ bf aQ aS aO left) (bJ (bf,aQ,aS,aO,())) left:=by
 have hz:(-9223372036854775808≤bf∧bf<9223372036854775808)∧(-9223372036854775808≤aQ∧aQ<9223372036854775808)∧(-9223372036854775808≤aS∧aS<9223372036854775808)∧(ByteArray.size aO≤9223372036854775807)∧True:=hz;show Left _ (ByteArray.size aO) left;obtain ⟨z0,z1,z2,z3,_⟩:=hz;unfold pQ;rw [ef (by omega) (by omega)]
 by_cases O0:left-((ByteArray.size aO:Nat):Int)<0
 ·rw [ak O0];exact ⟨-1,rfl,by omega,by omega⟩
 rw [aq O0];simp only [cond_false];exact ⟨_,rfl,by omega,by intro;omega⟩
theorem G9 (a0:aj) {left:Int} (hz:List.length a0≤9223372036854775807∧∀y∈a0,ur y) (h0:0≤left) (h1:left≤1048576):Left (nM a0 left) (List.length a0+wl bJ a0) left:=by
 obtain ⟨hlen,Ls⟩:=hz;unfold nM;rw [ef (by omega) (by omega)]
 by_cases hd:left-((List.length a0:Nat):Int)<0
 ·rw [ak hd];exact ⟨-1,rfl,by omega,by omega⟩
 rw [aq hd];simp only [cond_false];obtain ⟨e,he,hq⟩:=fV (round:=kh) (x:=(a0,left-((List.length a0:Nat):Int),((0:Nat):Int),())) a0.length (fun k x=>∃m:Int,x=(a0,m,((k:Nat):Int),())∧0≤m∧((a0.length+wl bJ (a0.take k):Nat):Int)+m≤left)
  (fun e=>match e with
   |.inl y=>0≤y.1∧((a0.length+wl bJ a0:Nat):Int)+y.1≤left
   |.inr y=>y.1 = -1) (by
   rintro x ⟨m,rfl,g1,g2⟩
   refine ⟨.inl (m,()),?_,g1,by rw [List.take_length] at g2;exact g2⟩;simp only [kh,qb,aA,cond_false]) (by
   rintro k x hk ⟨m,rfl,g1,g2⟩
   have hw:=ub bJ a0 hk;have hz:=Ls _ (List.getElem_mem hk);obtain ⟨m',e',l',w'⟩:=Kl ((a0[k]).1) ((a0[k]).2.1) ((a0[k]).2.2.1) ((a0[k]).2.2.2.1) (left:=m) hz g1 (by omega);have w':0≤m'→((bJ a0[k]:Nat):Int)+m'≤m:=w';simp only [kh,qb,az hk,au,cond_true,aC,List.getElem?_eq_getElem hk,Option.bind_some,e',aF (show k<4611686018427387904 by omega)]
   by_cases hm:m'<0
   ·rw [ak hm];exact .inl ⟨.inr (-1,()),rfl,rfl⟩
   ·rw [aq hm];have w':=w' (by omega);exact .inr ⟨_,rfl,_,rfl,by omega,by omega⟩)
   ⟨_,rfl,by omega,by rw [List.take_zero,vL];omega⟩
 rw [show (0:Int)=((0:Nat):Int) from rfl,he]
 cases e with
 |inl y=>exact ⟨y.1,rfl,by have:=hq.1;omega,fun _=>hq.2⟩
 |inr y=>exact ⟨y.1,rfl,by rw [show y.1 = -1 from hq];omega,by rw [show y.1 = -1 from hq];omega⟩
def VZ (x:ByteArray×Unit):Prop:=(ByteArray.size x.1≤9223372036854775807)∧True
theorem z_s {x:ByteArray×Unit} (h:yt tj x):VZ x:=⟨Il (aa.1 h).1,trivial⟩
def sO (x:ByteArray×Unit):Nat:=ByteArray.size x.1
theorem IV (a0:fE) {left:Int} (hz:List.length a0≤9223372036854775807∧∀y∈a0,VZ y) (h0:0≤left) (h1:left≤1048576):Left (nO a0 left) (List.length a0+wl sO a0) left:=by
 obtain ⟨hlen,Ls⟩:=hz;unfold nO;rw [ef (by omega) (by omega)]
 by_cases hd:left-((List.length a0:Nat):Int)<0
 ·rw [ak hd];exact ⟨-1,rfl,by omega,by omega⟩
 rw [aq hd];simp only [cond_false];obtain ⟨e,he,hq⟩:=fV (round:=iX) (x:=(a0,left-((List.length a0:Nat):Int),((0:Nat):Int),())) a0.length (fun k x=>∃m:Int,x=(a0,m,((k:Nat):Int),())∧0≤m∧((a0.length+wl sO (a0.take k):Nat):Int)+m≤left)
  (fun e=>match e with
   |.inl y=>0≤y.1∧((a0.length+wl sO a0:Nat):Int)+y.1≤left
   |.inr y=>y.1 = -1) (by
   rintro x ⟨m,rfl,g1,g2⟩
   refine ⟨.inl (m,()),?_,g1,by rw [List.take_length] at g2;exact g2⟩;simp only [iX,nN,aA,cond_false]) (by
   rintro k x hk ⟨m,rfl,g1,g2⟩
   have hw:=ub sO a0 hk;have hz:=Ls _ (List.getElem_mem hk);have hs:ByteArray.size a0[k].1≤9223372036854775807:=hz.1;have hw:wl sO (a0.take (k+1))=wl sO (a0.take k)+ByteArray.size a0[k].1:=hw;simp only [iX,nN,az hk,au,cond_true,aC,List.getElem?_eq_getElem hk,Option.bind_some,aF (show k<4611686018427387904 by omega)];rw [ef (by omega) (by omega)]
   by_cases hm:m-((ByteArray.size a0[k].1:Nat):Int)<0
   ·rw [ak hm];exact .inl ⟨.inr (-1,()),rfl,rfl⟩
   ·rw [aq hm];exact .inr ⟨_,rfl,_,rfl,by omega,by omega⟩)
   ⟨_,rfl,by omega,by rw [List.take_zero,vL];omega⟩
 rw [show (0:Int)=((0:Nat):Int) from rfl,he]
 cases e with
 |inl y=>exact ⟨y.1,rfl,by have:=hq.1;omega,fun _=>hq.2⟩
 |inr y=>exact ⟨y.1,rfl,by rw [show y.1 = -1 from hq];omega,by rw [show y.1 = -1 from hq];omega⟩
def IW (x:nf):Prop:=(-9223372036854775808≤x.1∧x.1<9223372036854775808)∧(-9223372036854775808≤x.2.1∧x.2.1<9223372036854775808)∧(-9223372036854775808≤x.2.2.1∧x.2.2.1<9223372036854775808)∧(-9223372036854775808≤x.2.2.2.1∧x.2.2.2.1<9223372036854775808)∧(-9223372036854775808≤x.2.2.2.2.1∧x.2.2.2.2.1<9223372036854775808)∧(List.length x.q.1≤9223372036854775807∧∀y∈x.q.1,A6 y)∧True
def xz (x:nf):Nat:=(List.length x.q.1+wl dk x.q.1)
theorem O1 (bf:Int) (aQ:Int) (aS:Int) (aO:Int) (bk:Int) (aW:aH) {left:Int} (hz:IW (bf,aQ,aS,aO,bk,aW,())) (h0:0≤left) (h1:left≤1048576):Left (qG bf aQ aS aO bk aW left) (xz (bf,aQ,aS,aO,bk,aW,())) left:=by
 have hz:(-9223372036854775808≤bf∧bf<9223372036854775808)∧(-9223372036854775808≤aQ∧aQ<9223372036854775808)∧(-9223372036854775808≤aS∧aS<9223372036854775808)∧(-9223372036854775808≤aO∧aO<9223372036854775808)∧(-9223372036854775808≤bk∧bk<9223372036854775808)∧(List.length aW≤9223372036854775807∧∀y∈aW,A6 y)∧True:=hz;show Left _ ((List.length aW+wl dk aW)) left;obtain ⟨z0,z1,z2,z3,z4,z5,_⟩:=hz;unfold qG;obtain ⟨m5,e5,l5,w5⟩:=A7 aW (left:=left) z5 (by omega) (by omega);rw [e5];simp only [Option.bind_some]
 by_cases hd5:m5<0
 ·rw [ak hd5];exact ⟨-1,rfl,by omega,by omega⟩
 rw [aq hd5];simp only [cond_false];have w5:=w5 (by omega);exact ⟨_,rfl,by omega,by intro;omega⟩
def ou (x:bV):Prop:=(-9223372036854775808≤x.1∧x.1<9223372036854775808)∧(-9223372036854775808≤x.2.1∧x.2.1<9223372036854775808)∧(List.length x.2.2.1≤9223372036854775807∧∀y∈x.2.2.1,A6 y)∧(List.length x.2.2.2.1≤9223372036854775807∧∀y∈x.2.2.2.1,ur y)∧(List.length x.2.2.2.2.1≤9223372036854775807∧∀y∈x.2.2.2.2.1,A6 y)∧(List.length x.q.1≤9223372036854775807∧∀y∈x.q.1,VZ y)∧(-9223372036854775808≤x.q.2.1∧x.q.2.1<9223372036854775808)∧(-9223372036854775808≤x.q.2.2.1∧x.q.2.2.1<9223372036854775808)∧(-9223372036854775808≤x.q.2.2.2.1∧x.q.2.2.2.1<9223372036854775808)∧(-9223372036854775808≤x.q.2.2.2.2.1∧x.q.2.2.2.2.1<9223372036854775808)∧(-9223372036854775808≤x.q.q.1∧x.q.q.1<9223372036854775808)∧(-9223372036854775808≤x.q.q.2.1∧x.q.q.2.1<9223372036854775808)∧(-9223372036854775808≤x.q.q.2.2.1∧x.q.q.2.2.1<9223372036854775808)∧(-9223372036854775808≤x.q.q.2.2.2.1∧x.q.q.2.2.2.1<9223372036854775808)∧(-9223372036854775808≤x.q.q.2.2.2.2.1∧x.q.q.2.2.2.2.1<9223372036854775808)∧(List.length x.q.q.q.1≤9223372036854775807∧∀y∈x.q.q.q.1,A6 y)∧True
def fp (x:bV):Nat:=(List.length x.2.2.1+wl dk x.2.2.1)+(List.length x.2.2.2.1+wl bJ x.2.2.2.1)+(List.length x.2.2.2.2.1+wl dk x.2.2.2.2.1)+(List.length x.q.1+wl sO x.q.1)+(List.length x.q.q.q.1+wl dk x.q.q.q.1)
theorem QH (bf:Int) (aQ:Int) (aS:aH) (aO:aj) (bk:aH) (aW:fE) (cu:Int) (cg:Int) (fL:Int) (fM:Int) (cK:Int) (cL:Int) (cM:Int) (cN:Int) (cO:Int) (bU:aH) {left:Int} (hz:ou (bf,aQ,aS,aO,bk,aW,cu,cg,fL,fM,cK,cL,cM,cN,cO,bU,())) (h0:0≤left) (h1:left≤1048576):Left (si bf aQ aS aO bk aW cu cg fL fM cK cL cM cN cO bU left) (fp (bf,aQ,aS,aO,bk,aW,cu,cg,fL,fM,cK,cL,cM,cN,cO,bU,())) left:=by
 have hz:(-9223372036854775808≤bf∧bf<9223372036854775808)∧(-9223372036854775808≤aQ∧aQ<9223372036854775808)∧(List.length aS≤9223372036854775807∧∀y∈aS,A6 y)∧(List.length aO≤9223372036854775807∧∀y∈aO,ur y)∧(List.length bk≤9223372036854775807∧∀y∈bk,A6 y)∧(List.length aW≤9223372036854775807∧∀y∈aW,VZ y)∧(-9223372036854775808≤cu∧cu<9223372036854775808)∧(-9223372036854775808≤cg∧cg<9223372036854775808)∧(-9223372036854775808≤fL∧fL<9223372036854775808)∧(-9223372036854775808≤fM∧fM<9223372036854775808)∧(-9223372036854775808≤cK∧cK<9223372036854775808)∧(-9223372036854775808≤cL∧cL<9223372036854775808)∧(-9223372036854775808≤cM∧cM<9223372036854775808)∧(-9223372036854775808≤cN∧cN<9223372036854775808)∧(-9223372036854775808≤cO∧cO<9223372036854775808)∧(List.length bU≤9223372036854775807∧∀y∈bU,A6 y)∧True:=hz;show Left _ ((List.length aS+wl dk aS)+(List.length aO+wl bJ aO)+(List.length bk+wl dk bk)+(List.length aW+wl sO aW)+(List.length bU+wl dk bU)) left;obtain ⟨z0,z1,z2,z3,z4,z5,z6,z7,z8,z9,z10,z11,z12,z13,z14,z15,_⟩:=hz;unfold si;obtain ⟨m1,e1,l1,w1⟩:=A8 aQ aS (left:=left) ⟨z1,z2,trivial⟩ (by omega) (by omega);have w1:0≤m1→(((List.length aS+wl dk aS):Nat):Int)+m1≤left:=w1;rw [e1];simp only [Option.bind_some]
 by_cases Pw:m1<0
 ·rw [ak Pw];exact ⟨-1,rfl,by omega,by omega⟩
 rw [aq Pw];simp only [cond_false];have w1:=w1 (by omega);obtain ⟨m3,e3,l3,w3⟩:=G9 aO (left:=m1) z3 (by omega) (by omega);rw [e3];simp only [Option.bind_some]
 by_cases O0:m3<0
 ·rw [ak O0];exact ⟨-1,rfl,by omega,by omega⟩
 rw [aq O0];simp only [cond_false];have w3:=w3 (by omega);obtain ⟨m4,e4,l4,w4⟩:=A7 bk (left:=m3) z4 (by omega) (by omega);rw [e4];simp only [Option.bind_some]
 by_cases hd4:m4<0
 ·rw [ak hd4];exact ⟨-1,rfl,by omega,by omega⟩
 rw [aq hd4];simp only [cond_false];have w4:=w4 (by omega);obtain ⟨m5,e5,l5,w5⟩:=IV aW (left:=m4) z5 (by omega) (by omega);rw [e5];simp only [Option.bind_some]
 by_cases hd5:m5<0
 ·rw [ak hd5];exact ⟨-1,rfl,by omega,by omega⟩
 rw [aq hd5];simp only [cond_false];have w5:=w5 (by omega);obtain ⟨m10,Up,l10,w10⟩:=O1 cK cL cM cN cO bU (left:=m5) ⟨z10,z11,z12,z13,z14,z15,trivial⟩ (by omega) (by omega);have w10:0≤m10→(((List.length bU+wl dk bU):Nat):Int)+m10≤m5:=w10;rw [Up];simp only [Option.bind_some]
 by_cases aaU:m10<0
 ·rw [ak aaU];exact ⟨-1,rfl,by omega,by omega⟩
 rw [aq aaU];simp only [cond_false];have w10:=w10 (by omega);exact ⟨_,rfl,by omega,by intro;omega⟩
def pU (x:cB):Prop:=(-9223372036854775808≤x.1∧x.1<9223372036854775808)∧(-9223372036854775808≤x.2.1∧x.2.1<9223372036854775808)∧(-9223372036854775808≤x.2.2.1∧x.2.2.1<9223372036854775808)∧(List.length x.2.2.2.1≤9223372036854775807∧∀y∈x.2.2.2.1,ur y)∧True
theorem Ha {x:cB} (h:yt cA x):pU x:=⟨fm (aa.1 h).1,fm (aa.1 (aa.1 h).2).1,fm (aa.1 (aa.1 (aa.1 h).2).2).1,⟨qa (aa.1 (aa.1 (aa.1 (aa.1 h).2).2).2).1,fun y hy=>OZ (uQ (aa.1 (aa.1 (aa.1 (aa.1 h).2).2).2).1 y hy)⟩,trivial⟩
def aI (x:cB):Nat:=(List.length x.2.2.2.1+wl bJ x.2.2.2.1)
theorem L6 (bf:Int) (aQ:Int) (aS:Int) (aO:aj) {left:Int} (hz:pU (bf,aQ,aS,aO,())) (h0:0≤left) (h1:left≤1048576):Left (pr bf aQ aS aO left) (aI (bf,aQ,aS,aO,())) left:=by
 have hz:(-9223372036854775808≤bf∧bf<9223372036854775808)∧(-9223372036854775808≤aQ∧aQ<9223372036854775808)∧(-9223372036854775808≤aS∧aS<9223372036854775808)∧(List.length aO≤9223372036854775807∧∀y∈aO,ur y)∧True:=hz;show Left _ ((List.length aO+wl bJ aO)) left;obtain ⟨z0,z1,z2,z3,_⟩:=hz;unfold pr;obtain ⟨m3,e3,l3,w3⟩:=G9 aO (left:=left) z3 (by omega) (by omega);rw [e3];simp only [Option.bind_some]
 by_cases O0:m3<0
 ·rw [ak O0];exact ⟨-1,rfl,by omega,by omega⟩
 rw [aq O0];simp only [cond_false];have w3:=w3 (by omega);exact ⟨_,rfl,by omega,by intro;omega⟩
theorem IX (a0:af) {left:Int} (hz:List.length a0≤9223372036854775807∧∀y∈a0,pU y) (h0:0≤left) (h1:left≤1048576):Left (nQ a0 left) (List.length a0+wl aI a0) left:=by
 obtain ⟨hlen,Ls⟩:=hz;unfold nQ;rw [ef (by omega) (by omega)]
 by_cases hd:left-((List.length a0:Nat):Int)<0
 ·rw [ak hd];exact ⟨-1,rfl,by omega,by omega⟩
 rw [aq hd];simp only [cond_false];obtain ⟨e,he,hq⟩:=fV (round:=iY) (x:=(a0,left-((List.length a0:Nat):Int),((0:Nat):Int),())) a0.length (fun k x=>∃m:Int,x=(a0,m,((k:Nat):Int),())∧0≤m∧((a0.length+wl aI (a0.take k):Nat):Int)+m≤left)
  (fun e=>match e with
   |.inl y=>0≤y.1∧((a0.length+wl aI a0:Nat):Int)+y.1≤left
   |.inr y=>y.1 = -1) (by
   rintro x ⟨m,rfl,g1,g2⟩
   refine ⟨.inl (m,()),?_,g1,by rw [List.take_length] at g2;exact g2⟩;simp only [iY,nP,aA,cond_false]) (by
   rintro k x hk ⟨m,rfl,g1,g2⟩
   have hw:=ub aI a0 hk;have hz:=Ls _ (List.getElem_mem hk);obtain ⟨m',e',l',w'⟩:=L6 ((a0[k]).1) ((a0[k]).2.1) ((a0[k]).2.2.1) ((a0[k]).2.2.2.1) (left:=m) hz g1 (by omega);have w':0≤m'→((aI a0[k]:Nat):Int)+m'≤m:=w';simp only [iY,nP,az hk,au,cond_true,aC,List.getElem?_eq_getElem hk,Option.bind_some,e',aF (show k<4611686018427387904 by omega)]
   by_cases hm:m'<0
   ·rw [ak hm];exact .inl ⟨.inr (-1,()),rfl,rfl⟩
   ·rw [aq hm];have w':=w' (by omega);exact .inr ⟨_,rfl,_,rfl,by omega,by omega⟩)
   ⟨_,rfl,by omega,by rw [List.take_zero,vL];omega⟩
 rw [show (0:Int)=((0:Nat):Int) from rfl,he]
 cases e with
 |inl y=>exact ⟨y.1,rfl,by have:=hq.1;omega,fun _=>hq.2⟩
 |inr y=>exact ⟨y.1,rfl,by rw [show y.1 = -1 from hq];omega,by rw [show y.1 = -1 from hq];omega⟩
def lN (x:bX):Prop:=(-9223372036854775808≤x.1∧x.1<9223372036854775808)∧(-9223372036854775808≤x.2.1∧x.2.1<9223372036854775808)∧(List.length x.2.2.1≤9223372036854775807∧∀y∈x.2.2.1,A6 y)∧(-9223372036854775808≤x.2.2.2.1∧x.2.2.2.1<9223372036854775808)∧(-9223372036854775808≤x.2.2.2.2.1∧x.2.2.2.2.1<9223372036854775808)∧(-9223372036854775808≤x.q.1∧x.q.1<9223372036854775808)∧(ByteArray.size x.q.2.1≤9223372036854775807)∧(List.length x.q.2.2.1≤9223372036854775807∧∀y∈x.q.2.2.1,A6 y)∧True
theorem Co {x:bX} (h:yt bA x):lN x:=⟨fm (aa.1 h).1,fm (aa.1 (aa.1 h).2).1,⟨qa (aa.1 (aa.1 (aa.1 h).2).2).1,fun y hy=>Uo (uQ (aa.1 (aa.1 (aa.1 h).2).2).1 y hy)⟩,fm (aa.1 (aa.1 (aa.1 (aa.1 h).2).2).2).1,fm (aa.1 (aa.1 (aa.1 (aa.1 (aa.1 h).2).2).2).2).1,fm (aa.1 (aa.1 (aa.1 (aa.1 (aa.1 (aa.1 h).2).2).2).2).2).1,Il (aa.1 (aa.1 (aa.1 (aa.1 (aa.1 (aa.1 (aa.1 h).2).2).2).2).2).2).1,⟨qa (aa.1 (aa.1 (aa.1 (aa.1 (aa.1 (aa.1 (aa.1 (aa.1 h).2).2).2).2).2).2).2).1,fun y hy=>Uo (uQ (aa.1 (aa.1 (aa.1 (aa.1 (aa.1 (aa.1 (aa.1 (aa.1 h).2).2).2).2).2).2).2).1 y hy)⟩,trivial⟩
def ax (x:bX):Nat:=(List.length x.2.2.1+wl dk x.2.2.1)+ByteArray.size x.q.2.1+(List.length x.q.2.2.1+wl dk x.q.2.2.1)
theorem O2 (bf:Int) (aQ:Int) (aS:aH) (aO:Int) (bk:Int) (aW:Int) (cu:ByteArray) (cg:aH) {left:Int} (hz:lN (bf,aQ,aS,aO,bk,aW,cu,cg,())) (h0:0≤left) (h1:left≤1048576):Left (qH bf aQ aS aO bk aW cu cg left) (ax (bf,aQ,aS,aO,bk,aW,cu,cg,())) left:=by
 have hz:(-9223372036854775808≤bf∧bf<9223372036854775808)∧(-9223372036854775808≤aQ∧aQ<9223372036854775808)∧(List.length aS≤9223372036854775807∧∀y∈aS,A6 y)∧(-9223372036854775808≤aO∧aO<9223372036854775808)∧(-9223372036854775808≤bk∧bk<9223372036854775808)∧(-9223372036854775808≤aW∧aW<9223372036854775808)∧(ByteArray.size cu≤9223372036854775807)∧(List.length cg≤9223372036854775807∧∀y∈cg,A6 y)∧True:=hz;show Left _ ((List.length aS+wl dk aS)+ByteArray.size cu+(List.length cg+wl dk cg)) left;obtain ⟨z0,z1,z2,z3,z4,z5,z6,z7,_⟩:=hz;unfold qH;obtain ⟨m1,e1,l1,w1⟩:=A8 aQ aS (left:=left) ⟨z1,z2,trivial⟩ (by omega) (by omega);have w1:0≤m1→(((List.length aS+wl dk aS):Nat):Int)+m1≤left:=w1;rw [e1];simp only [Option.bind_some]
 by_cases Pw:m1<0
 ·rw [ak Pw];exact ⟨-1,rfl,by omega,by omega⟩
 rw [aq Pw];simp only [cond_false];have w1:=w1 (by omega);obtain ⟨m3,e3,l3,w3⟩:=Kl aO bk aW cu (left:=m1) ⟨z3,z4,z5,z6,trivial⟩ (by omega) (by omega);have w3:0≤m3→((ByteArray.size cu:Nat):Int)+m3≤m1:=w3;rw [e3];simp only [Option.bind_some]
 by_cases O0:m3<0
 ·rw [ak O0];exact ⟨-1,rfl,by omega,by omega⟩
 rw [aq O0];simp only [cond_false];have w3:=w3 (by omega);obtain ⟨m7,e7,l7,w7⟩:=A7 cg (left:=m3) z7 (by omega) (by omega);rw [e7];simp only [Option.bind_some]
 by_cases hd7:m7<0
 ·rw [ak hd7];exact ⟨-1,rfl,by omega,by omega⟩
 rw [aq hd7];simp only [cond_false];have w7:=w7 (by omega);exact ⟨_,rfl,by omega,by intro;omega⟩
theorem L7 (a0:ai) {left:Int} (hz:List.length a0≤9223372036854775807∧∀y∈a0,lN y) (h0:0≤left) (h1:left≤1048576):Left (pt a0 left) (List.length a0+wl ax a0) left:=by
 obtain ⟨hlen,Ls⟩:=hz;unfold pt;rw [ef (by omega) (by omega)]
 by_cases hd:left-((List.length a0:Nat):Int)<0
 ·rw [ak hd];exact ⟨-1,rfl,by omega,by omega⟩
 rw [aq hd];simp only [cond_false];obtain ⟨e,he,hq⟩:=fV (round:=jC) (x:=(a0,left-((List.length a0:Nat):Int),((0:Nat):Int),())) a0.length (fun k x=>∃m:Int,x=(a0,m,((k:Nat):Int),())∧0≤m∧((a0.length+wl ax (a0.take k):Nat):Int)+m≤left)
  (fun e=>match e with
   |.inl y=>0≤y.1∧((a0.length+wl ax a0:Nat):Int)+y.1≤left
   |.inr y=>y.1 = -1) (by
   rintro x ⟨m,rfl,g1,g2⟩
   refine ⟨.inl (m,()),?_,g1,by rw [List.take_length] at g2;exact g2⟩;simp only [jC,oV,aA,cond_false]) (by
   rintro k x hk ⟨m,rfl,g1,g2⟩
   have hw:=ub ax a0 hk;have hz:=Ls _ (List.getElem_mem hk);obtain ⟨m',e',l',w'⟩:=O2 ((a0[k]).1) ((a0[k]).2.1) ((a0[k]).2.2.1) ((a0[k]).2.2.2.1) ((a0[k]).2.2.2.2.1) ((a0[k]).q.1) ((a0[k]).q.2.1) ((a0[k]).q.2.2.1) (left:=m) hz g1 (by omega);have w':0≤m'→((ax a0[k]:Nat):Int)+m'≤m:=w';simp only [jC,oV,az hk,au,cond_true,aC,List.getElem?_eq_getElem hk,Option.bind_some,e',aF (show k<4611686018427387904 by omega)]
   by_cases hm:m'<0
   ·rw [ak hm];exact .inl ⟨.inr (-1,()),rfl,rfl⟩
   ·rw [aq hm];have w':=w' (by omega);exact .inr ⟨_,rfl,_,rfl,by omega,by omega⟩)
   ⟨_,rfl,by omega,by rw [List.take_zero,vL];omega⟩
 rw [show (0:Int)=((0:Nat):Int) from rfl,he]
 cases e with
 |inl y=>exact ⟨y.1,rfl,by have:=hq.1;omega,fun _=>hq.2⟩
 |inr y=>exact ⟨y.1,rfl,by rw [show y.1 = -1 from hq];omega,by rw [show y.1 = -1 from hq];omega⟩
def cQ (x:ae):Prop:=(-9223372036854775808≤x.1∧x.1<9223372036854775808)∧(True)∧(-9223372036854775808≤x.2.2.1∧x.2.2.1<9223372036854775808)∧(-9223372036854775808≤x.2.2.2.1∧x.2.2.2.1<9223372036854775808)∧(List.length x.2.2.2.2.1≤9223372036854775807∧∀y∈x.2.2.2.2.1,A6 y)∧(List.length x.q.1≤9223372036854775807∧∀y∈x.q.1,ur y)∧(List.length x.q.2.1≤9223372036854775807∧∀y∈x.q.2.1,A6 y)∧(List.length x.q.2.2.1≤9223372036854775807∧∀y∈x.q.2.2.1,VZ y)∧(-9223372036854775808≤x.q.2.2.2.1∧x.q.2.2.2.1<9223372036854775808)∧(-9223372036854775808≤x.q.2.2.2.2.1∧x.q.2.2.2.2.1<9223372036854775808)∧(-9223372036854775808≤x.q.q.1∧x.q.q.1<9223372036854775808)∧(-9223372036854775808≤x.q.q.2.1∧x.q.q.2.1<9223372036854775808)∧(-9223372036854775808≤x.q.q.2.2.1∧x.q.q.2.2.1<9223372036854775808)∧(-9223372036854775808≤x.q.q.2.2.2.1∧x.q.q.2.2.2.1<9223372036854775808)∧(-9223372036854775808≤x.q.q.2.2.2.2.1∧x.q.q.2.2.2.2.1<9223372036854775808)∧(-9223372036854775808≤x.q.q.q.1∧x.q.q.q.1<9223372036854775808)∧(-9223372036854775808≤x.q.q.q.2.1∧x.q.q.q.2.1<9223372036854775808)∧(List.length x.q.q.q.2.2.1≤9223372036854775807∧∀y∈x.q.q.q.2.2.1,A6 y)∧(-9223372036854775808≤x.q.q.q.2.2.2.1∧x.q.q.q.2.2.2.1<9223372036854775808)∧(-9223372036854775808≤x.q.q.q.2.2.2.2.1∧x.q.q.q.2.2.2.2.1<9223372036854775808)∧(-9223372036854775808≤x.q.q.q.q.1∧x.q.q.q.q.1<9223372036854775808)∧(List.length x.q.q.q.q.2.1≤9223372036854775807∧∀y∈x.q.q.q.q.2.1,A6 y)∧(List.length x.q.q.q.q.2.2.1≤9223372036854775807∧∀y∈x.q.q.q.q.2.2.1,pU y)∧(List.length x.q.q.q.q.2.2.2.1≤9223372036854775807∧∀y∈x.q.q.q.q.2.2.2.1,lN y)∧True
def bK (x:ae):Nat:=(List.length x.2.2.2.2.1+wl dk x.2.2.2.2.1)+(List.length x.q.1+wl bJ x.q.1)+(List.length x.q.2.1+wl dk x.q.2.1)+(List.length x.q.2.2.1+wl sO x.q.2.2.1)+(List.length x.q.q.q.2.2.1+wl dk x.q.q.q.2.2.1)+(List.length x.q.q.q.q.2.1+wl dk x.q.q.q.q.2.1)+(List.length x.q.q.q.q.2.2.1+wl aI x.q.q.q.q.2.2.1)+(List.length x.q.q.q.q.2.2.2.1+wl ax x.q.q.q.q.2.2.2.1)
theorem L8 (bf:Int) (aQ:Bool) (aS:Int) (aO:Int) (bk:aH) (aW:aj) (cu:aH) (cg:fE) (fL:Int) (fM:Int) (cK:Int) (cL:Int) (cM:Int) (cN:Int) (cO:Int) (bU:Int) (iK:Int) (dt:aH) (lq:Int) (lr:Int) (iL:Int) (dz:aH) (dA:af) (dJ:ai) {left:Int} (hz:cQ (bf,aQ,aS,aO,bk,aW,cu,cg,fL,fM,cK,cL,cM,cN,cO,bU,iK,dt,lq,lr,iL,dz,dA,dJ,())) (h0:0≤left) (h1:left≤1048576):Left (mL bf aQ aS aO bk aW cu cg fL fM cK cL cM cN cO bU iK dt lq lr iL dz dA dJ left) (bK (bf,aQ,aS,aO,bk,aW,cu,cg,fL,fM,cK,cL,cM,cN,cO,bU,iK,dt,lq,lr,iL,dz,dA,dJ,())) left:=by
 have hz:(-9223372036854775808≤bf∧bf<9223372036854775808)∧(True)∧(-9223372036854775808≤aS∧aS<9223372036854775808)∧(-9223372036854775808≤aO∧aO<9223372036854775808)∧(List.length bk≤9223372036854775807∧∀y∈bk,A6 y)∧(List.length aW≤9223372036854775807∧∀y∈aW,ur y)∧(List.length cu≤9223372036854775807∧∀y∈cu,A6 y)∧(List.length cg≤9223372036854775807∧∀y∈cg,VZ y)∧(-9223372036854775808≤fL∧fL<9223372036854775808)∧(-9223372036854775808≤fM∧fM<9223372036854775808)∧(-9223372036854775808≤cK∧cK<9223372036854775808)∧(-9223372036854775808≤cL∧cL<9223372036854775808)∧(-9223372036854775808≤cM∧cM<9223372036854775808)∧(-9223372036854775808≤cN∧cN<9223372036854775808)∧(-9223372036854775808≤cO∧cO<9223372036854775808)∧(-9223372036854775808≤bU∧bU<9223372036854775808)∧(-9223372036854775808≤iK∧iK<9223372036854775808)∧(List.length dt≤9223372036854775807∧∀y∈dt,A6 y)∧(-9223372036854775808≤lq∧lq<9223372036854775808)∧(-9223372036854775808≤lr∧lr<9223372036854775808)∧(-9223372036854775808≤iL∧iL<9223372036854775808)∧(List.length dz≤9223372036854775807∧∀y∈dz,A6 y)∧(List.length dA≤9223372036854775807∧∀y∈dA,pU y)∧(List.length dJ≤9223372036854775807∧∀y∈dJ,lN y)∧True:=hz;show Left _ ((List.length bk+wl dk bk)+(List.length aW+wl bJ aW)+(List.length cu+wl dk cu)+(List.length cg+wl sO cg)+(List.length dt+wl dk dt)+(List.length dz+wl dk dz)+(List.length dA+wl aI dA)+(List.length dJ+wl ax dJ)) left;obtain ⟨z0,z1,z2,z3,z4,z5,z6,z7,z8,z9,z10,z11,z12,z13,z14,z15,z16,z17,z18,z19,z20,z21,z22,z23,_⟩:=hz;unfold mL;obtain ⟨m2,e2,l2,w2⟩:=QH aS aO bk aW cu cg fL fM cK cL cM cN cO bU iK dt (left:=left) ⟨z2,z3,z4,z5,z6,z7,z8,z9,z10,z11,z12,z13,z14,z15,z16,z17,trivial⟩ (by omega) (by omega);have w2:0≤m2→(((List.length bk+wl dk bk)+(List.length aW+wl bJ aW)+(List.length cu+wl dk cu)+(List.length cg+wl sO cg)+(List.length dt+wl dk dt):Nat):Int)+m2≤left:=w2;rw [e2];simp only [Option.bind_some]
 by_cases hd2:m2<0
 ·rw [ak hd2];exact ⟨-1,rfl,by omega,by omega⟩
 rw [aq hd2];simp only [cond_false];have w2:=w2 (by omega);obtain ⟨m20,e20,l20,w20⟩:=A8 iL dz (left:=m2) ⟨z20,z21,trivial⟩ (by omega) (by omega);have w20:0≤m20→(((List.length dz+wl dk dz):Nat):Int)+m20≤m2:=w20;rw [e20];simp only [Option.bind_some]
 by_cases aaV:m20<0
 ·rw [ak aaV];exact ⟨-1,rfl,by omega,by omega⟩
 rw [aq aaV];simp only [cond_false];have w20:=w20 (by omega);obtain ⟨m22,e22,V1,w22⟩:=IX dA (left:=m20) z22 (by omega) (by omega);rw [e22];simp only [Option.bind_some]
 by_cases aaW:m22<0
 ·rw [ak aaW];exact ⟨-1,rfl,by omega,by omega⟩
 rw [aq aaW];simp only [cond_false];have w22:=w22 (by omega);obtain ⟨m23,e23,V2,w23⟩:=L7 dJ (left:=m22) z23 (by omega) (by omega);rw [e23];simp only [Option.bind_some]
 by_cases aaX:m23<0
 ·rw [ak aaX];exact ⟨-1,rfl,by omega,by omega⟩
 rw [aq aaX];simp only [cond_false];have w23:=w23 (by omega);exact ⟨_,rfl,by omega,by intro;omega⟩
theorem A9 (a0:aH) (h:List.length a0+wl dk a0≤4194304):lu a0=some (a0,()):=by
 have hl:aG jD (a0,List.replicate a0.length ((0:Int),()),(0:Int),())=some (.inl (a0,())):=by
  have:=bT (round:=jD) (e:=.inl (a0,())) a0.length (fun k=>(a0,a0.take k++List.replicate (a0.length-k) ((0:Int),()),((k:Nat):Int),())) (by
   simp only [jD,rE,aA,cond_false,List.take_length,Nat.sub_self,List.replicate_zero,List.append_nil]) (fun k hk=>by
   have hb:k<(a0.take k++List.replicate (a0.length-k) (((0:Int),()):Int×Unit)).length:=by simp;omega
   simp only [jD,rE,az hk,au,cond_true,aC,List.getElem?_eq_getElem hk,List.getElem?_eq_getElem hb,Option.bind_some,fW hb,aF (show k<4611686018427387904 by omega)];rw [←vK a0 _ hk])
  simpa using this
 unfold lu;simp only [decide_true,au,cond_true,aC,bh (show a0.length*8≤lim by unfold lim;omega),hl,iW]
theorem Ba (bf:Int) (aQ:aH) (h:IU (bf,aQ,())≤4194304):db bf aQ=some (bf,aQ,()):=by
 have h:(List.length aQ+wl dk aQ)≤4194304:=h;unfold db;simp only [Option.bind_some,A9 aQ (by show (List.length aQ+wl dk aQ)≤4194304;omega)]
theorem Km (bf:Int) (aQ:Int) (aS:Int) (aO:ByteArray) (h:bJ (bf,aQ,aS,aO,())≤4194304):sj bf aQ aS aO=some (bf,aQ,aS,aO,()):=by
 have h:ByteArray.size aO≤4194304:=h;rfl
theorem Hb (a0:aj) (h:List.length a0+wl bJ a0≤4194304):nR a0=some (a0,()):=by
 have hl:aG iO (a0,List.replicate a0.length ((0:Int),(0:Int),(0:Int),ByteArray.empty,()),(0:Int),())=some (.inl (a0,())):=by
  have:=bT (round:=iO) (e:=.inl (a0,())) a0.length (fun k=>(a0,a0.take k++List.replicate (a0.length-k) ((0:Int),(0:Int),(0:Int),ByteArray.empty,()),((k:Nat):Int),())) (by
   simp only [iO,qc,aA,cond_false,List.take_length,Nat.sub_self,List.replicate_zero,List.append_nil]) (fun k hk=>by
   have hb:k<(a0.take k++List.replicate (a0.length-k) (((0:Int),(0:Int),(0:Int),ByteArray.empty,()):nd)).length:=by simp;omega
   simp only [iO,qc,az hk,au,cond_true,aC,List.getElem?_eq_getElem hk,List.getElem?_eq_getElem hb,Option.bind_some,fW hb,aF (show k<4611686018427387904 by omega),Km ((a0[k]).1) ((a0[k]).2.1) ((a0[k]).2.2.1) ((a0[k]).2.2.2.1) (Nat.le_trans (p9 bJ a0 _ (List.getElem_mem hk)) (by omega))];rw [←vK a0 _ hk])
  simpa using this
 unfold nR;simp only [decide_true,au,cond_true,aC,bh (show a0.length*40≤lim by unfold lim;omega),hl,iW]
theorem IY (a0:fE) (h:List.length a0+wl sO a0≤4194304):nT a0=some (a0,()):=by
 have hl:aG gu (a0,List.replicate a0.length (ByteArray.empty,()),(0:Int),())=some (.inl (a0,())):=by
  have:=bT (round:=gu) (e:=.inl (a0,())) a0.length (fun k=>(a0,a0.take k++List.replicate (a0.length-k) (ByteArray.empty,()),((k:Nat):Int),())) (by
   simp only [gu,nS,aA,cond_false,List.take_length,Nat.sub_self,List.replicate_zero,List.append_nil]) (fun k hk=>by
   have hb:k<(a0.take k++List.replicate (a0.length-k) ((ByteArray.empty,()):ByteArray×Unit)).length:=by simp;omega
   simp only [gu,nS,az hk,au,cond_true,aC,List.getElem?_eq_getElem hk,List.getElem?_eq_getElem hb,Option.bind_some,fW hb,aF (show k<4611686018427387904 by omega)];rw [←vK a0 _ hk])
  simpa using this
 unfold nT;simp only [decide_true,au,cond_true,aC,bh (show a0.length*16≤lim by unfold lim;omega),hl,iW]
theorem O3 (bf:Int) (aQ:Int) (aS:Int) (aO:Int) (bk:Int) (aW:aH) (h:xz (bf,aQ,aS,aO,bk,aW,())≤4194304):qI bf aQ aS aO bk aW=some (bf,aQ,aS,aO,bk,aW,()):=by
 have h:(List.length aW+wl dk aW)≤4194304:=h;unfold qI;simp only [Option.bind_some,A9 aW (by show (List.length aW+wl dk aW)≤4194304;omega)]
theorem QI (bf:Int) (aQ:Int) (aS:aH) (aO:aj) (bk:aH) (aW:fE) (cu:Int) (cg:Int) (fL:Int) (fM:Int) (cK:Int) (cL:Int) (cM:Int) (cN:Int) (cO:Int) (bU:aH) (h:fp (bf,aQ,aS,aO,bk,aW,cu,cg,fL,fM,cK,cL,cM,cN,cO,bU,())≤4194304):sk bf aQ aS aO bk aW cu cg fL fM cK cL cM cN cO bU=some (bf,aQ,aS,aO,bk,aW,cu,cg,fL,fM,cK,cL,cM,cN,cO,bU,()):=by
 have h:(List.length aS+wl dk aS)+(List.length aO+wl bJ aO)+(List.length bk+wl dk bk)+(List.length aW+wl sO aW)+(List.length bU+wl dk bU)≤4194304:=h;unfold sk;simp only [Option.bind_some,Ba aQ aS (by show (List.length aS+wl dk aS)≤4194304;omega),Hb aO (by show (List.length aO+wl bJ aO)≤4194304;omega),A9 bk (by show (List.length bk+wl dk bk)≤4194304;omega),IY aW (by show (List.length aW+wl sO aW)≤4194304;omega),O3 cK cL cM cN cO bU (by show (List.length bU+wl dk bU)≤4194304;omega)]
theorem L9 (bf:Int) (aQ:Int) (aS:Int) (aO:aj) (h:aI (bf,aQ,aS,aO,())≤4194304):pv bf aQ aS aO=some (bf,aQ,aS,aO,()):=by
 have h:(List.length aO+wl bJ aO)≤4194304:=h;unfold pv;simp only [Option.bind_some,Hb aO (by show (List.length aO+wl bJ aO)≤4194304;omega)]
theorem IZ (a0:af) (h:List.length a0+wl aI a0≤4194304):nV a0=some (a0,()):=by
 have hl:aG gv (a0,List.replicate a0.length ((0:Int),(0:Int),(0:Int),[],()),(0:Int),())=some (.inl (a0,())):=by
  have:=bT (round:=gv) (e:=.inl (a0,())) a0.length (fun k=>(a0,a0.take k++List.replicate (a0.length-k) ((0:Int),(0:Int),(0:Int),[],()),((k:Nat):Int),())) (by
   simp only [gv,nU,aA,cond_false,List.take_length,Nat.sub_self,List.replicate_zero,List.append_nil]) (fun k hk=>by
   have hb:k<(a0.take k++List.replicate (a0.length-k) (((0:Int),(0:Int),(0:Int),[],()):cB)).length:=by simp;omega
   simp only [gv,nU,az hk,au,cond_true,aC,List.getElem?_eq_getElem hk,List.getElem?_eq_getElem hb,Option.bind_some,fW hb,aF (show k<4611686018427387904 by omega),L9 ((a0[k]).1) ((a0[k]).2.1) ((a0[k]).2.2.1) ((a0[k]).2.2.2.1) (Nat.le_trans (p9 aI a0 _ (List.getElem_mem hk)) (by omega))];rw [←vK a0 _ hk])
  simpa using this
 unfold nV;simp only [decide_true,au,cond_true,aC,bh (show a0.length*48≤lim by unfold lim;omega),hl,iW]
theorem O4 (bf:Int) (aQ:Int) (aS:aH) (aO:Int) (bk:Int) (aW:Int) (cu:ByteArray) (cg:aH) (h:ax (bf,aQ,aS,aO,bk,aW,cu,cg,())≤4194304):qJ bf aQ aS aO bk aW cu cg=some (bf,aQ,aS,aO,bk,aW,cu,cg,()):=by
 have h:(List.length aS+wl dk aS)+ByteArray.size cu+(List.length cg+wl dk cg)≤4194304:=h;unfold qJ;simp only [Option.bind_some,Ba aQ aS (by show (List.length aS+wl dk aS)≤4194304;omega),Km aO bk aW cu (by show ByteArray.size cu≤4194304;omega),A9 cg (by show (List.length cg+wl dk cg)≤4194304;omega)]
theorem Ma (a0:ai) (h:List.length a0+wl ax a0≤4194304):pw a0=some (a0,()):=by
 have hl:aG ib (a0,List.replicate a0.length ((0:Int),(0:Int),[],(0:Int),(0:Int),(0:Int),ByteArray.empty,[],()),(0:Int),())=some (.inl (a0,())):=by
  have:=bT (round:=ib) (e:=.inl (a0,())) a0.length (fun k=>(a0,a0.take k++List.replicate (a0.length-k) ((0:Int),(0:Int),[],(0:Int),(0:Int),(0:Int),ByteArray.empty,[],()),((k:Nat):Int),())) (by
   simp only [ib,oW,aA,cond_false,List.take_length,Nat.sub_self,List.replicate_zero,List.append_nil]) (fun k hk=>by
   have hb:k<(a0.take k++List.replicate (a0.length-k) (((0:Int),(0:Int),[],(0:Int),(0:Int),(0:Int),ByteArray.empty,[],()):bX)).length:=by simp;omega
   simp only [ib,oW,az hk,au,cond_true,aC,List.getElem?_eq_getElem hk,List.getElem?_eq_getElem hb,Option.bind_some,fW hb,aF (show k<4611686018427387904 by omega),O4 ((a0[k]).1) ((a0[k]).2.1) ((a0[k]).2.2.1) ((a0[k]).2.2.2.1) ((a0[k]).2.2.2.2.1) ((a0[k]).q.1) ((a0[k]).q.2.1) ((a0[k]).q.2.2.1) (Nat.le_trans (p9 ax a0 _ (List.getElem_mem hk)) (by omega))];rw [←vK a0 _ hk])
  simpa using this
 unfold pw;simp only [decide_true,au,cond_true,aC,bh (show a0.length*104≤lim by unfold lim;omega),hl,iW]
theorem Mb (bf:Int) (aQ:Bool) (aS:Int) (aO:Int) (bk:aH) (aW:aj) (cu:aH) (cg:fE) (fL:Int) (fM:Int) (cK:Int) (cL:Int) (cM:Int) (cN:Int) (cO:Int) (bU:Int) (iK:Int) (dt:aH) (lq:Int) (lr:Int) (iL:Int) (dz:aH) (dA:af) (dJ:ai) (h:bK (bf,aQ,aS,aO,bk,aW,cu,cg,fL,fM,cK,cL,cM,cN,cO,bU,iK,dt,lq,lr,iL,dz,dA,dJ,())≤4194304):hF bf aQ aS aO bk aW cu cg fL fM cK cL cM cN cO bU iK dt lq lr iL dz dA dJ=some (bf,aQ,aS,aO,bk,aW,cu,cg,fL,fM,cK,cL,cM,cN,cO,bU,iK,dt,lq,lr,iL,dz,dA,dJ,()):=by
 have h:(List.length bk+wl dk bk)+(List.length aW+wl bJ aW)+(List.length cu+wl dk cu)+(List.length cg+wl sO cg)+(List.length dt+wl dk dt)+(List.length dz+wl dk dz)+(List.length dA+wl aI dA)+(List.length dJ+wl ax dJ)≤4194304:=h;unfold hF;simp only [Option.bind_some,QI aS aO bk aW cu cg fL fM cK cL cM cN cO bU iK dt (by show (List.length bk+wl dk bk)+(List.length aW+wl bJ aW)+(List.length cu+wl dk cu)+(List.length cg+wl sO cg)+(List.length dt+wl dk dt)≤4194304;omega),Ba iL dz (by show (List.length dz+wl dk dz)≤4194304;omega),IZ dA (by show (List.length dA+wl aI dA)≤4194304;omega),Ma dJ (by show (List.length dJ+wl ax dJ)≤4194304;omega)]
theorem Bb (a0:aH) (h:List.length a0+wl dk a0≤4194304):lK a0 a0=some (true,()):=by
 have hl:aG jK (a0,a0,(0:Int),())=some (.inl ()):=by
  have:=bT (round:=jK) (e:=.inl ()) a0.length (fun k=>(a0,a0,((k:Nat):Int),())) (by
   simp only [jK,rN,aA,cond_false]) (fun k hk=>by
   simp only [jK,rN,az hk,au,cond_true,cond_false,aC,List.getElem?_eq_getElem hk,Option.bind_some,decide_true,beq_self_eq_true,dB,Bool.not_true,aF (show k<4611686018427387904 by omega)])
  simpa using this
 unfold lK;simp only [decide_true,Bool.not_true,cond_false,hl,iW]
theorem Bc (bf:Int) (aQ:aH) (h:IU (bf,aQ,())≤4194304):jV bf aQ bf aQ=some (true,()):=by
 have h:(List.length aQ+wl dk aQ)≤4194304:=h;unfold jV;simp only [decide_true,beq_self_eq_true,Bool.not_true,Bool.not_false,cond_true,cond_false,dB,Option.bind_some,Bb aQ (by show (List.length aQ+wl dk aQ)≤4194304;omega)]
theorem Ko (bf:Int) (aQ:Int) (aS:Int) (aO:ByteArray) (h:bJ (bf,aQ,aS,aO,())≤4194304):pS bf aQ aS aO bf aQ aS aO=some (true,()):=by
 have h:ByteArray.size aO≤4194304:=h;unfold pS;simp only [decide_true,beq_self_eq_true,Bool.not_true,Bool.not_false,cond_true,cond_false,dB,Option.bind_some]
theorem Hc (a0:aj) (h:List.length a0+wl bJ a0≤4194304):n8 a0 a0=some (true,()):=by
 have hl:aG iT (a0,a0,(0:Int),())=some (.inl ()):=by
  have:=bT (round:=iT) (e:=.inl ()) a0.length (fun k=>(a0,a0,((k:Nat):Int),())) (by
   simp only [iT,qm,aA,cond_false]) (fun k hk=>by
   simp only [iT,qm,az hk,au,cond_true,cond_false,aC,List.getElem?_eq_getElem hk,Option.bind_some,decide_true,beq_self_eq_true,dB,Bool.not_true,aF (show k<4611686018427387904 by omega),Ko ((a0[k]).1) ((a0[k]).2.1) ((a0[k]).2.2.1) ((a0[k]).2.2.2.1) (Nat.le_trans (p9 bJ a0 _ (List.getElem_mem hk)) (by omega))])
  simpa using this
 unfold n8;simp only [decide_true,Bool.not_true,cond_false,hl,iW]
theorem I0 (a0:fE) (h:List.length a0+wl sO a0≤4194304):oa a0 a0=some (true,()):=by
 have hl:aG gC (a0,a0,(0:Int),())=some (.inl ()):=by
  have:=bT (round:=gC) (e:=.inl ()) a0.length (fun k=>(a0,a0,((k:Nat):Int),())) (by
   simp only [gC,n9,aA,cond_false]) (fun k hk=>by
   simp only [gC,n9,az hk,au,cond_true,cond_false,aC,List.getElem?_eq_getElem hk,Option.bind_some,decide_true,beq_self_eq_true,dB,Bool.not_true,aF (show k<4611686018427387904 by omega)])
  simpa using this
 unfold oa;simp only [decide_true,Bool.not_true,cond_false,hl,iW]
theorem O5 (bf:Int) (aQ:Int) (aS:Int) (aO:Int) (bk:Int) (aW:aH) (h:xz (bf,aQ,aS,aO,bk,aW,())≤4194304):qO bf aQ aS aO bk aW bf aQ aS aO bk aW=some (true,()):=by
 have h:(List.length aW+wl dk aW)≤4194304:=h;unfold qO;simp only [decide_true,beq_self_eq_true,Bool.not_true,Bool.not_false,cond_true,cond_false,dB,Option.bind_some,Bb aW (by show (List.length aW+wl dk aW)≤4194304;omega)]
theorem QJ (bf:Int) (aQ:Int) (aS:aH) (aO:aj) (bk:aH) (aW:fE) (cu:Int) (cg:Int) (fL:Int) (fM:Int) (cK:Int) (cL:Int) (cM:Int) (cN:Int) (cO:Int) (bU:aH) (h:fp (bf,aQ,aS,aO,bk,aW,cu,cg,fL,fM,cK,cL,cM,cN,cO,bU,())≤4194304):sq bf aQ aS aO bk aW cu cg fL fM cK cL cM cN cO bU bf aQ aS aO bk aW cu cg fL fM cK cL cM cN cO bU=some (true,()):=by
 have h:(List.length aS+wl dk aS)+(List.length aO+wl bJ aO)+(List.length bk+wl dk bk)+(List.length aW+wl sO aW)+(List.length bU+wl dk bU)≤4194304:=h;unfold sq;simp only [decide_true,beq_self_eq_true,Bool.not_true,Bool.not_false,cond_true,cond_false,dB,Option.bind_some,Bc aQ aS (by show (List.length aS+wl dk aS)≤4194304;omega),Hc aO (by show (List.length aO+wl bJ aO)≤4194304;omega),Bb bk (by show (List.length bk+wl dk bk)≤4194304;omega),I0 aW (by show (List.length aW+wl sO aW)≤4194304;omega),O5 cK cL cM cN cO bU (by show (List.length bU+wl dk bU)≤4194304;omega)]
theorem Mc (bf:Int) (aQ:Int) (aS:Int) (aO:aj) (h:aI (bf,aQ,aS,aO,())≤4194304):pB bf aQ aS aO bf aQ aS aO=some (true,()):=by
 have h:(List.length aO+wl bJ aO)≤4194304:=h;unfold pB;simp only [decide_true,beq_self_eq_true,Bool.not_true,Bool.not_false,cond_true,cond_false,dB,Option.bind_some,Hc aO (by show (List.length aO+wl bJ aO)≤4194304;omega)]
theorem Cp (a0:af) (h:List.length a0+wl aI a0≤4194304):eW a0 a0=some (true,()):=by
 have hl:aG gD (a0,a0,(0:Int),())=some (.inl ()):=by
  have:=bT (round:=gD) (e:=.inl ()) a0.length (fun k=>(a0,a0,((k:Nat):Int),())) (by
   simp only [gD,ob,aA,cond_false]) (fun k hk=>by
   simp only [gD,ob,az hk,au,cond_true,cond_false,aC,List.getElem?_eq_getElem hk,Option.bind_some,decide_true,beq_self_eq_true,dB,Bool.not_true,aF (show k<4611686018427387904 by omega),Mc ((a0[k]).1) ((a0[k]).2.1) ((a0[k]).2.2.1) ((a0[k]).2.2.2.1) (Nat.le_trans (p9 aI a0 _ (List.getElem_mem hk)) (by omega))])
  simpa using this
 unfold eW;simp only [decide_true,Bool.not_true,cond_false,hl,iW]
theorem O6 (bf:Int) (aQ:Int) (aS:aH) (aO:Int) (bk:Int) (aW:Int) (cu:ByteArray) (cg:aH) (h:ax (bf,aQ,aS,aO,bk,aW,cu,cg,())≤4194304):qP bf aQ aS aO bk aW cu cg bf aQ aS aO bk aW cu cg=some (true,()):=by
 have h:(List.length aS+wl dk aS)+ByteArray.size cu+(List.length cg+wl dk cg)≤4194304:=h;unfold qP;simp only [decide_true,beq_self_eq_true,Bool.not_true,Bool.not_false,cond_true,cond_false,dB,Option.bind_some,Bc aQ aS (by show (List.length aS+wl dk aS)≤4194304;omega),Ko aO bk aW cu (by show ByteArray.size cu≤4194304;omega),Bb cg (by show (List.length cg+wl dk cg)≤4194304;omega)]
theorem Me (a0:ai) (h:List.length a0+wl ax a0≤4194304):pC a0 a0=some (true,()):=by
 have hl:aG im (a0,a0,(0:Int),())=some (.inl ()):=by
  have:=bT (round:=im) (e:=.inl ()) a0.length (fun k=>(a0,a0,((k:Nat):Int),())) (by
   simp only [im,pb,aA,cond_false]) (fun k hk=>by
   simp only [im,pb,az hk,au,cond_true,cond_false,aC,List.getElem?_eq_getElem hk,Option.bind_some,decide_true,beq_self_eq_true,dB,Bool.not_true,aF (show k<4611686018427387904 by omega),O6 ((a0[k]).1) ((a0[k]).2.1) ((a0[k]).2.2.1) ((a0[k]).2.2.2.1) ((a0[k]).2.2.2.2.1) ((a0[k]).q.1) ((a0[k]).q.2.1) ((a0[k]).q.2.2.1) (Nat.le_trans (p9 ax a0 _ (List.getElem_mem hk)) (by omega))])
  simpa using this
 unfold pC;simp only [decide_true,Bool.not_true,cond_false,hl,iW]
theorem D3 (bf:Int) (aQ:Bool) (aS:Int) (aO:Int) (bk:aH) (aW:aj) (cu:aH) (cg:fE) (fL:Int) (fM:Int) (cK:Int) (cL:Int) (cM:Int) (cN:Int) (cO:Int) (bU:Int) (iK:Int) (dt:aH) (lq:Int) (lr:Int) (iL:Int) (dz:aH) (dA:af) (dJ:ai) (h:bK (bf,aQ,aS,aO,bk,aW,cu,cg,fL,fM,cK,cL,cM,cN,cO,bU,iK,dt,lq,lr,iL,dz,dA,dJ,())≤4194304):eO bf aQ aS aO bk aW cu cg fL fM cK cL cM cN cO bU iK dt lq lr iL dz dA dJ bf aQ aS aO bk aW cu cg fL fM cK cL cM cN cO bU iK dt lq lr iL dz dA dJ=some (true,()):=by
 have h:(List.length bk+wl dk bk)+(List.length aW+wl bJ aW)+(List.length cu+wl dk cu)+(List.length cg+wl sO cg)+(List.length dt+wl dk dt)+(List.length dz+wl dk dz)+(List.length dA+wl aI dA)+(List.length dJ+wl ax dJ)≤4194304:=h;unfold eO;simp only [decide_true,beq_self_eq_true,Bool.not_true,Bool.not_false,cond_true,cond_false,dB,Option.bind_some,QJ aS aO bk aW cu cg fL fM cK cL cM cN cO bU iK dt (by show (List.length bk+wl dk bk)+(List.length aW+wl bJ aW)+(List.length cu+wl dk cu)+(List.length cg+wl sO cg)+(List.length dt+wl dk dt)≤4194304;omega),Bc iL dz (by show (List.length dz+wl dk dz)≤4194304;omega),Cp dA (by show (List.length dA+wl aI dA)≤4194304;omega),Me dJ (by show (List.length dJ+wl ax dJ)≤4194304;omega)]
end Go.TM
set_option linter.unusedSimpArgs false
set_option linter.unusedVariables false
namespace Go.TM
open Go
def O7 (y:Int×Unit):UInt8:=UInt8.ofNat y.1.toNat
theorem Fj (ys:List (Int×Unit)):(bytesOf ys).data.toList=ys.map O7:=by
 have key:∀(ys:List (Int×Unit)) (s:ByteArray),(List.foldl (fun (r:ByteArray) (y:Int×Unit)=>r.push (UInt8.ofNat y.1.toNat)) s ys).data.toList=s.data.toList++ys.map O7:=by
  intro ys
  induction ys with
  |nil=>intro s;simp
  |cons y ys ih=>
   intro s;rw [List.foldl_cons,ih];simp [O7]
 have:=key ys ByteArray.empty;exact this
theorem Fk (ys:List (Int×Unit)):(bytesOf ys).size=ys.length:=by
 have h1:(bytesOf ys).data.toList.length=(bytesOf ys).size:=Array.length_toList;rw [←h1,Fj,List.length_map]
def QK {B:Type}:Sum (ByteArray×Unit) B→Prop
 |.inl y=>y.1.size≤20
 |.inr _=>False
theorem vU (n:Nat) (h:n<1099511627776):∃b:ByteArray,ed ((n:Nat):Int)=some (b,()):=by
 unfold ed
 by_cases h0:((n:Nat):Int)≤0
 ·rw [ak h0];exact ⟨_,rfl⟩
 rw [aq h0];obtain ⟨e,he,hq⟩:=fV (round:=iq) (x:=(((n:Nat):Int),(ByteArray.mk #[]),())) 20 (fun k x=>∃(m:Nat) (out:ByteArray),x=(((m:Nat):Int),out,())∧m≤n∧m<10 ^ (20-k)∧out.size=k)
  QK (by
  rintro x ⟨m,out,rfl,hn,hm,hl⟩
  have hm:m<1:=hm;refine ⟨.inl (out,()),?_,by show out.size≤20;omega⟩;simp only [iq,ma,aq (show ¬(0:Int)<((m:Nat):Int) by omega),cond_false]) (by
  rintro k x hk ⟨m,out,rfl,hn,hm,hl⟩
  by_cases h1:0<m
  ·have hd:Int.tdiv ((m:Nat):Int) (10:Int)=((m / 10:Nat):Int):=rfl;have hbz:ByteArray.size (bytesOf [(IntKind.u8.wrap (IntKind.i64.wrap ((48:Int)+(Int.tmod ((m:Nat):Int) (10:Int)))),())])=1:=Fk _;refine .inr ⟨(((m / 10:Nat):Int),bytesOf [(IntKind.u8.wrap (IntKind.i64.wrap ((48:Int)+(Int.tmod ((m:Nat):Int) (10:Int)))),())]++out,()),?_,m / 10,bytesOf [(IntKind.u8.wrap (IntKind.i64.wrap ((48:Int)+(Int.tmod ((m:Nat):Int) (10:Int)))),())]++out,rfl,by omega,?_,?_⟩
   ·simp only [iq,ma,ak (show (0:Int)<((m:Nat):Int) by omega),cond_true,hd,ef (show -9223372036854775808≤((m / 10:Nat):Int) by omega) (show ((m / 10:Nat):Int)<9223372036854775808 by omega),hbz,
     bh (show 1+out.size≤lim by unfold lim;omega)]
   ·have e1:20-k=(20-(k+1))+1:=by omega
    rw [e1,Nat.pow_succ] at hm;omega
   ·rw [ByteArray.size_append,hbz];omega
  ·refine .inl ⟨.inl (out,()),?_,by show out.size≤20;omega⟩;simp only [iq,ma,aq (show ¬(0:Int)<((m:Nat):Int) by omega),cond_false]) ⟨n,_,rfl,Nat.le_refl _,by show n<100000000000000000000;omega,rfl⟩
 rw [he]
 cases e with
 |inr e=>exact hq.elim
 |inl e=>
  have hq:e.1.size≤20:=hq;simp only [cond_false,iW,bh (show 1+ByteArray.size e.1≤lim by unfold lim;omega),cond_true];exact ⟨_,rfl⟩
noncomputable def uu (n:Nat):ByteArray:=if h:n<1099511627776 then Classical.choose (vU n h) else ByteArray.empty
theorem tq {n:Nat} (h:n<1099511627776):ed ((n:Nat):Int)=some (uu n,()):=by
 unfold uu;rw [dif_pos h];exact Classical.choose_spec (vU n h)
end Go.TM
set_option linter.unusedSimpArgs false
set_option linter.unusedVariables false
namespace Go.TM
open Go
theorem Uq {p:Prop} {i:Decidable p} (h:p):@decide p i=true:=decide_eq_true h
theorem Ur {p:Prop} {i:Decidable p} (h:¬p):@decide p i=false:=decide_eq_false h
theorem Kp (k:Nat):decide (((k:Nat):Int)<(0:Int))=false:=aq (by omega)
theorem kV {k:Nat} (h:k≤549755813888):IntKind.i64.wrap (((k:Nat):Int)+(1:Int))=(((k+1:Nat)):Int):=aF (by omega)
theorem Hd {k:Nat} (h:k≤549755813888):ed ((k:Nat):Int)=some (uu k,()):=tq (by omega)
theorem Cq {α:Type} (f g:α→Nat) (c:Nat) (h:∀x,f x≤c*(1+g x)):(xs:List α)→wl f xs≤c*(xs.length+wl g xs)
 | []=>Nat.zero_le _
 |x::xs=>by
  have h1:=h x;have h2:=Cq f g c h xs;rw [mX,mX,List.length_cons];have e:c*(xs.length+1+(g x+wl g xs))=c*(1+g x)+c*(xs.length+wl g xs):=by rw [←Nat.mul_add];congr 1;omega
  omega
theorem O8 {α:Type} (f:α→Nat) (c:Nat):(xs:List α)→(∀x∈xs,f x≤c)→wl f xs≤c*xs.length
 | [],_=>Nat.zero_le _
 |x::xs,h=>by
  rw [mX,List.length_cons,Nat.mul_succ];have:=O8 f c xs (fun y hy=>h y (List.mem_cons_of_mem _ hy));have:=h x List.mem_cons_self;omega
theorem Cr {α:Type} (f:α→Nat) (xs:List α) {k:Nat} (hk:k<xs.length):wl f (xs.take k)+f xs[k]≤wl f xs:=by
 have h1:=ub f xs hk;have h2:wl f xs=wl f (xs.take (k+1))+wl f (xs.drop (k+1)):=by rw [←B8,List.take_append_drop]
 omega
theorem D4 {α B:Type} (M:α→Nat) (HD:α→Nat→α→Prop) (round:List α×Int×Int×Unit→Option (Sum (List α×Int×Int×Unit) (Sum (List α×Int×Unit) B))) (xs:List α) (a:Nat)
  (EI:∀(l:List α) (m:Int),l.length=xs.length→round (l,m,((xs.length:Nat):Int),())=some (.inr (.inl (l,m,()))))
  (uP:∀(l:List α) (k:Nat) (hk:k<xs.length) (n:Nat),l.length=xs.length→l[k]?=some xs[k]→n+M xs[k]≤a+wl M xs→∃y,HD xs[k] n y∧round (l,((n:Nat):Int),((k:Nat):Int),())=some (.inl (l.set k y,((n+M xs[k]:Nat):Int),((k+1:Nat):Int),()))) :
  ∃l,aG round (xs,((a:Nat):Int),(0:Int),())=some (.inl (l,((a+wl M xs:Nat):Int),()))∧l.length=xs.length∧∀j (hj:j<xs.length),∃y,l[j]?=some y∧HD xs[j] (a+wl M (xs.take j)) y:=by
 obtain ⟨e,he,l,rfl,hl,hj⟩:=fV (round:=round) (x:=(xs,((a:Nat):Int),((0:Nat):Int),())) xs.length
  (fun k x=>∃l:List α,x=(l,((a+wl M (xs.take k):Nat):Int),((k:Nat):Int),())∧l.length=xs.length∧(∀j (hj:j<xs.length),j<k→∃y,l[j]?=some y∧HD xs[j] (a+wl M (xs.take j)) y)∧∀j (hj:j<xs.length),k≤j→l[j]?=some xs[j])
  (fun e=>∃l:List α,e=.inl (l,((a+wl M xs:Nat):Int),())∧l.length=xs.length∧∀j (hj:j<xs.length),∃y,l[j]?=some y∧HD xs[j] (a+wl M (xs.take j)) y) (by
  rintro x ⟨l,rfl,hl,hj,_⟩
  rw [List.take_length];exact ⟨_,EI l _ hl,l,rfl,hl,fun j hj'=>hj j hj' hj'⟩) (by
  rintro k x hk ⟨l,rfl,hl,h1,h2⟩
  have hb:=Cr M xs hk;obtain ⟨y,hy,hr⟩:=uP l k hk (a+wl M (xs.take k)) hl (h2 k hk (Nat.le_refl _)) (by omega);refine .inr ⟨_,hr,l.set k y,by rw [Nat.add_assoc,←ub M xs hk],by simp [hl],fun j hj zk => ?_,fun j hj zk => ?_⟩
  ·by_cases e:k=j
   ·subst e;exact ⟨y,by rw [List.getElem?_set_self (by omega)],hy⟩
   ·rw [List.getElem?_set_ne e];exact h1 j hj (by omega)
  ·rw [List.getElem?_set_ne (by omega)];exact h2 j hj (by omega)) ⟨xs,by rw [List.take_zero];rfl,rfl,fun j _ h=>by omega,fun j hj _=>List.getElem?_eq_getElem hj⟩
 exact ⟨l,he,hl,hj⟩
theorem D5 {α B:Type} (M:α→Nat) (HD:α→Nat→α→Prop) (round:List α×Int×Int×Unit→Option (Sum (List α×Int×Int×Unit) (Sum (Int×Unit) B))) (xs l:List α) (a:Nat) (hl:l.length=xs.length)
  (hy:∀j (hj:j<xs.length),∃y,l[j]?=some y∧HD xs[j] (a+wl M (xs.take j)) y)
  (EI:∀m:Int,round (l,m,((xs.length:Nat):Int),())=some (.inr (.inl (m,()))))
  (uP:∀(k:Nat) (hk:k<xs.length) (n:Nat) (y:α),k<l.length→l[k]?=some y→HD xs[k] n y→n+M xs[k]≤a+wl M xs→round (l,((n:Nat):Int),((k:Nat):Int),())=some (.inl (l,((n+M xs[k]:Nat):Int),((k+1:Nat):Int),()))) :
  aG round (l,((a:Nat):Int),(0:Int),())=some (.inl (((a+wl M xs:Nat):Int),())):=by
 have h:=bT (round:=round) (e:=.inl (((a+wl M xs:Nat):Int),())) xs.length (fun k=>(l,((a+wl M (xs.take k):Nat):Int),((k:Nat):Int),())) (by
  rw [List.take_length];exact EI _) (fun k hk=>by
  have hb:=Cr M xs hk;obtain ⟨y,h1,h2⟩:=hy k hk;have:=uP k hk _ y (by omega) h1 h2 (by omega);rw [this,Nat.add_assoc,←ub M xs hk])
 have h:aG round (l,((a+wl M (xs.take 0):Nat):Int),(0:Int),())=_:=h
 rwa [List.take_zero] at h
end Go.TM
set_option linter.unusedSimpArgs false
set_option linter.unusedVariables false
namespace Go.TM
open Go
noncomputable def Cs (n:Nat):Int×Unit:=(((n+0:Nat):Int),())
def I1 (n a:Nat) {B:Type}:Sum ((aH)×Int×Unit) B→Prop
 |.inl y=>y.2.1=((a+1*n:Nat):Int)∧y.1.length=n∧∀j,j<n→y.1[j]?=some (Cs (a+1*j))
 |.inr _=>False
theorem yE (xs:aH) (a:Nat) (h:List.length xs≤4194304) (ha:a≤549755813888):∃l,hY xs ((a:Nat):Int)=some (((a+1*List.length xs:Nat):Int),l,())∧eP l ((a:Nat):Int)=some (((a+1*List.length xs:Nat):Int),())∧List.length l=List.length xs:=by
 obtain ⟨e,he,hq⟩:=fV (round:=jL) (x:=(xs,((a:Nat):Int),((0:Nat):Int),())) xs.length (fun k x=>∃l:aH,x=(l,((a+1*k:Nat):Int),((k:Nat):Int),())∧l.length=xs.length∧∀j,j<k→l[j]?=some (Cs (a+1*j)))
  (I1 xs.length a) (by
  rintro x ⟨l,rfl,hl,hj⟩
  refine ⟨.inl (l,((a+1*xs.length:Nat):Int),()),?_,rfl,hl,hj⟩;simp only [jL,pc,hl,aA,cond_false]) (by
  rintro k x hk ⟨l,rfl,hl,hj⟩
  have Ay:k<l.length:=by omega
  refine .inr ⟨_,?_,l.set k (Cs (a+1*k)),rfl,by simp [hl],fun j hj' => ?_⟩
  ·have e0:((a+1*k:Nat):Int)=((a+1*k+0:Nat):Int):=rfl;have e1:IntKind.i64.wrap (((a+1*k+0:Nat):Int)+(1:Int))=((a+1*k+1:Nat):Int):=by rw [ef]<;>omega
   have ez:((a+1*k+1:Nat):Int)=((a+1*(k+1):Nat):Int):=by omega
   rw [e0];simp only [jL,pc,az Ay,au,cond_true,aC,List.length_set,fW Ay,List.getElem?_eq_getElem Ay,List.getElem?_set_self Ay,List.set_set,Option.bind_some,e1,ez,aF (show k<4611686018427387904 by omega)];rfl
  ·rw [List.getElem?_set]
   by_cases zk:k=j
   ·subst zk;rw [if_pos rfl,if_pos Ay]
   ·rw [if_neg zk];exact hj j (by omega)) ⟨xs,rfl,rfl,fun j hj=>by omega⟩
 cases e with
 |inr e=>exact hq.elim
 |inl e=>
  obtain ⟨q1,q2,q3⟩:=hq;obtain ⟨l,m,u⟩:=e;simp only at q1 q2 q3;subst q1;refine ⟨l,?_,?_,q2⟩
  ·unfold hY;rw [show (0:Int)=((0:Nat):Int) from rfl,he];rfl
  ·have hl:=bT (round:=iu) (e:=.inl (((a+1*xs.length:Nat):Int),())) xs.length (fun k=>(l,((a+1*k:Nat):Int),((k:Nat):Int),())) (by
    simp only [iu,pe,q2,aA,cond_false]) (fun k hk=>by
    have Ay:k<l.length:=by omega
    have PR:l[k]?=some (((a+1*k+0:Nat):Int),()):=q3 k hk;have e0:((a+1*k:Nat):Int)=((a+1*k+0:Nat):Int):=rfl;have e1:IntKind.i64.wrap (((a+1*k+0:Nat):Int)+(1:Int))=((a+1*k+1:Nat):Int):=by rw [ef]<;>omega
    have ez:((a+1*k+1:Nat):Int)=((a+1*(k+1):Nat):Int):=by omega
    rw [e0];simp only [iu,pe,az Ay,au,cond_true,cond_false,aC,PR,decide_true,dB,Bool.not_true,Option.bind_some,e1,ez,aF (show k<4611686018427387904 by omega)])
   unfold eP;have hl:aG iu (l,((a+1*0:Nat):Int),(0:Int),())=_:=hl;rw [Nat.mul_zero,Nat.add_zero] at hl;rw [hl];rfl
theorem Fl (bf:Int) (aQ:aH) (a:Nat) (h1:List.length aQ≤4194304) (ha:a≤274877906944):∃l1,jl bf aQ ((a:Nat):Int)=some (((a+1*List.length aQ:Nat):Int),l1,())∧mP bf l1 ((a:Nat):Int)=some (((a+1*List.length aQ:Nat):Int),())∧List.length l1=List.length aQ:=by
 obtain ⟨l1,e0,g0,nl1⟩:=yE aQ (a) h1 (by omega);refine ⟨l1,?_,?_,nl1⟩
 ·simp only [jl,e0,Option.bind_some]<;>rfl
 ·simp only [mP,g0,Option.bind_some,cond_false,aq (show ¬((a+1*List.length aQ:Nat):Int)<0 by omega)]
noncomputable def zx (n:Nat):nd:=(((n+0:Nat):Int),((n+1:Nat):Int),((n+2:Nat):Int),uu (n+3),())
def He (n a:Nat) {B:Type}:Sum ((aj)×Int×Unit) B→Prop
 |.inl y=>y.2.1=((a+4*n:Nat):Int)∧y.1.length=n∧∀j,j<n→y.1[j]?=some (zx (a+4*j))
 |.inr _=>False
theorem Hf (xs:aj) (a:Nat) (h:List.length xs≤4194304) (ha:a≤549755813888):∃l,lL xs ((a:Nat):Int)=some (((a+4*List.length xs:Nat):Int),l,())∧jM l ((a:Nat):Int)=some (((a+4*List.length xs:Nat):Int),())∧List.length l=List.length xs:=by
 obtain ⟨e,he,hq⟩:=fV (round:=je) (x:=(xs,((a:Nat):Int),((0:Nat):Int),())) xs.length (fun k x=>∃l:aj,x=(l,((a+4*k:Nat):Int),((k:Nat):Int),())∧l.length=xs.length∧∀j,j<k→l[j]?=some (zx (a+4*j)))
  (He xs.length a) (by
  rintro x ⟨l,rfl,hl,hj⟩
  refine ⟨.inl (l,((a+4*xs.length:Nat):Int),()),?_,rfl,hl,hj⟩;simp only [je,oc,hl,aA,cond_false]) (by
  rintro k x hk ⟨l,rfl,hl,hj⟩
  have Ay:k<l.length:=by omega
  refine .inr ⟨_,?_,l.set k (zx (a+4*k)),rfl,by simp [hl],fun j hj' => ?_⟩
  ·have e0:((a+4*k:Nat):Int)=((a+4*k+0:Nat):Int):=rfl;have e1:IntKind.i64.wrap (((a+4*k+0:Nat):Int)+(1:Int))=((a+4*k+1:Nat):Int):=by rw [ef]<;>omega
   have e2:IntKind.i64.wrap (((a+4*k+1:Nat):Int)+(1:Int))=((a+4*k+2:Nat):Int):=by rw [ef]<;>omega
   have e3:IntKind.i64.wrap (((a+4*k+2:Nat):Int)+(1:Int))=((a+4*k+3:Nat):Int):=by rw [ef]<;>omega
   have e4:IntKind.i64.wrap (((a+4*k+3:Nat):Int)+(1:Int))=((a+4*k+4:Nat):Int):=by rw [ef]<;>omega
   have ez:((a+4*k+4:Nat):Int)=((a+4*(k+1):Nat):Int):=by omega
   rw [e0];simp only [je,oc,az Ay,au,cond_true,aC,List.length_set,fW Ay,List.getElem?_eq_getElem Ay,List.getElem?_set_self Ay,List.set_set,Option.bind_some,tq (show a+4*k+3<1099511627776 by omega),e1,e2,e3,e4,ez,aF (show k<4611686018427387904 by omega)];rfl
  ·rw [List.getElem?_set]
   by_cases zk:k=j
   ·subst zk;rw [if_pos rfl,if_pos Ay]
   ·rw [if_neg zk];exact hj j (by omega)) ⟨xs,rfl,rfl,fun j hj=>by omega⟩
 cases e with
 |inr e=>exact hq.elim
 |inl e=>
  obtain ⟨q1,q2,q3⟩:=hq;obtain ⟨l,m,u⟩:=e;simp only at q1 q2 q3;subst q1;refine ⟨l,?_,?_,q2⟩
  ·unfold lL;rw [show (0:Int)=((0:Nat):Int) from rfl,he];rfl
  ·have hl:=bT (round:=gF) (e:=.inl (((a+4*xs.length:Nat):Int),())) xs.length (fun k=>(l,((a+4*k:Nat):Int),((k:Nat):Int),())) (by
    simp only [gF,oe,q2,aA,cond_false]) (fun k hk=>by
    have Ay:k<l.length:=by omega
    have PR:l[k]?=some (((a+4*k+0:Nat):Int),((a+4*k+1:Nat):Int),((a+4*k+2:Nat):Int),uu (a+4*k+3),()):=q3 k hk;have e0:((a+4*k:Nat):Int)=((a+4*k+0:Nat):Int):=rfl;have e1:IntKind.i64.wrap (((a+4*k+0:Nat):Int)+(1:Int))=((a+4*k+1:Nat):Int):=by rw [ef]<;>omega
    have e2:IntKind.i64.wrap (((a+4*k+1:Nat):Int)+(1:Int))=((a+4*k+2:Nat):Int):=by rw [ef]<;>omega
    have e3:IntKind.i64.wrap (((a+4*k+2:Nat):Int)+(1:Int))=((a+4*k+3:Nat):Int):=by rw [ef]<;>omega
    have e4:IntKind.i64.wrap (((a+4*k+3:Nat):Int)+(1:Int))=((a+4*k+4:Nat):Int):=by rw [ef]<;>omega
    have ez:((a+4*k+4:Nat):Int)=((a+4*(k+1):Nat):Int):=by omega
    rw [e0];simp only [gF,oe,az Ay,au,cond_true,cond_false,aC,PR,decide_true,dB,Bool.not_true,Option.bind_some,tq (show a+4*k+3<1099511627776 by omega),e1,e2,e3,e4,ez,aF (show k<4611686018427387904 by omega)])
   unfold jM;have hl:aG gF (l,((a+4*0:Nat):Int),(0:Int),())=_:=hl;rw [Nat.mul_zero,Nat.add_zero] at hl;rw [hl];rfl
noncomputable def vV (n:Nat):ByteArray×Unit:=(uu (n+0),())
def C4 (n a:Nat) {B:Type}:Sum ((fE)×Int×Unit) B→Prop
 |.inl y=>y.2.1=((a+1*n:Nat):Int)∧y.1.length=n∧∀j,j<n→y.1[j]?=some (vV (a+1*j))
 |.inr _=>False
theorem I2 (xs:fE) (a:Nat) (h:List.length xs≤4194304) (ha:a≤549755813888):∃l,mb xs ((a:Nat):Int)=some (((a+1*List.length xs:Nat):Int),l,())∧mc l ((a:Nat):Int)=some (((a+1*List.length xs:Nat):Int),())∧List.length l=List.length xs:=by
 obtain ⟨e,he,hq⟩:=fV (round:=gV) (x:=(xs,((a:Nat):Int),((0:Nat):Int),())) xs.length (fun k x=>∃l:fE,x=(l,((a+1*k:Nat):Int),((k:Nat):Int),())∧l.length=xs.length∧∀j,j<k→l[j]?=some (vV (a+1*j)))
  (C4 xs.length a) (by
  rintro x ⟨l,rfl,hl,hj⟩
  refine ⟨.inl (l,((a+1*xs.length:Nat):Int),()),?_,rfl,hl,hj⟩;simp only [gV,mr,hl,aA,cond_false]) (by
  rintro k x hk ⟨l,rfl,hl,hj⟩
  have Ay:k<l.length:=by omega
  refine .inr ⟨_,?_,l.set k (vV (a+1*k)),rfl,by simp [hl],fun j hj' => ?_⟩
  ·have e0:((a+1*k:Nat):Int)=((a+1*k+0:Nat):Int):=rfl;have e1:IntKind.i64.wrap (((a+1*k+0:Nat):Int)+(1:Int))=((a+1*k+1:Nat):Int):=by rw [ef]<;>omega
   have ez:((a+1*k+1:Nat):Int)=((a+1*(k+1):Nat):Int):=by omega
   rw [e0];simp only [gV,mr,az Ay,au,cond_true,aC,List.length_set,fW Ay,List.getElem?_eq_getElem Ay,List.getElem?_set_self Ay,List.set_set,Option.bind_some,tq (show a+1*k+0<1099511627776 by omega),e1,ez,aF (show k<4611686018427387904 by omega)];rfl
  ·rw [List.getElem?_set]
   by_cases zk:k=j
   ·subst zk;rw [if_pos rfl,if_pos Ay]
   ·rw [if_neg zk];exact hj j (by omega)) ⟨xs,rfl,rfl,fun j hj=>by omega⟩
 cases e with
 |inr e=>exact hq.elim
 |inl e=>
  obtain ⟨q1,q2,q3⟩:=hq;obtain ⟨l,m,u⟩:=e;simp only at q1 q2 q3;subst q1;refine ⟨l,?_,?_,q2⟩
  ·unfold mb;rw [show (0:Int)=((0:Nat):Int) from rfl,he];rfl
  ·have hl:=bT (round:=fe) (e:=.inl (((a+1*xs.length:Nat):Int),())) xs.length (fun k=>(l,((a+1*k:Nat):Int),((k:Nat):Int),())) (by
    simp only [fe,my,q2,aA,cond_false]) (fun k hk=>by
    have Ay:k<l.length:=by omega
    have PR:l[k]?=some (uu (a+1*k+0),()):=q3 k hk;have e0:((a+1*k:Nat):Int)=((a+1*k+0:Nat):Int):=rfl;have e1:IntKind.i64.wrap (((a+1*k+0:Nat):Int)+(1:Int))=((a+1*k+1:Nat):Int):=by rw [ef]<;>omega
    have ez:((a+1*k+1:Nat):Int)=((a+1*(k+1):Nat):Int):=by omega
    rw [e0];simp only [fe,my,az Ay,au,cond_true,cond_false,aC,PR,decide_true,dB,Bool.not_true,Option.bind_some,tq (show a+1*k+0<1099511627776 by omega),e1,ez,aF (show k<4611686018427387904 by omega)])
   unfold mc;have hl:aG fe (l,((a+1*0:Nat):Int),(0:Int),())=_:=hl;rw [Nat.mul_zero,Nat.add_zero] at hl;rw [hl];rfl
theorem O9 (bf:Int) (aQ:Int) (aS:Int) (aO:Int) (bk:Int) (aW:aH) (a:Nat) (h5:List.length aW≤4194304) (ha:a≤274877906944):∃l5,od bf aQ aS aO bk aW ((a:Nat):Int)=some (((a+1*List.length aW:Nat):Int),l5,())∧og bf aQ aS aO bk l5 ((a:Nat):Int)=some (((a+1*List.length aW:Nat):Int),())∧List.length l5=List.length aW:=by
 obtain ⟨l5,e0,g0,nl5⟩:=yE aW (a) h5 (by omega);refine ⟨l5,?_,?_,nl5⟩
 ·simp only [od,e0,Option.bind_some]<;>rfl
 ·simp only [og,g0,Option.bind_some,cond_false,aq (show ¬((a+1*List.length aW:Nat):Int)<0 by omega)]
theorem QL (bf:Int) (aQ:Int) (aS:aH) (aO:aj) (bk:aH) (aW:fE) (cu:Int) (cg:Int) (fL:Int) (fM:Int) (cK:Int) (cL:Int) (cM:Int) (cN:Int) (cO:Int) (bU:aH) (a:Nat) (h2:List.length aS≤4194304) (h3:List.length aO≤4194304) (h4:List.length bk≤4194304) (h5:List.length aW≤4194304) (h15:List.length bU≤4194304) (ha:a≤137438953472):∃l2 l3 l4 l5 l15,pD bf aQ aS aO bk aW cu cg fL fM cK cL cM cN cO bU ((a:Nat):Int)=some (((a+1*List.length aS+4*List.length aO+1*List.length bk+1*List.length aW+1*List.length bU:Nat):Int),l2,l3,l4,l5,l15,())∧pE bf aQ l2 l3 l4 l5 cu cg fL fM cK cL cM cN cO l15 ((a:Nat):Int)=some (((a+1*List.length aS+4*List.length aO+1*List.length bk+1*List.length aW+1*List.length bU:Nat):Int),())∧List.length l2=List.length aS∧List.length l3=List.length aO∧List.length l4=List.length bk∧List.length l5=List.length aW∧List.length l15=List.length bU:=by
 obtain ⟨l2,e0,g0,nl2⟩:=Fl aQ aS (a) h2 (by omega);obtain ⟨l3,e1,g1,nl3⟩:=Hf aO (a+1*List.length aS) h3 (by omega);obtain ⟨l4,e2,g2,nl4⟩:=yE bk (a+1*List.length aS+4*List.length aO) h4 (by omega);obtain ⟨l5,e3,g3,nl5⟩:=I2 aW (a+1*List.length aS+4*List.length aO+1*List.length bk) h5 (by omega);obtain ⟨l15,e4,g4,afM⟩:=O9 cK cL cM cN cO bU (a+1*List.length aS+4*List.length aO+1*List.length bk+1*List.length aW) h15 (by omega);refine ⟨l2,l3,l4,l5,l15,?_,?_,nl2,nl3,nl4,nl5,afM⟩
 ·simp only [pD,e0,e1,e2,e3,e4,Option.bind_some]<;>rfl
 ·simp only [pE,g0,g1,g2,g3,g4,Option.bind_some,cond_false,aq (show ¬((a+1*List.length aS:Nat):Int)<0 by omega),aq (show ¬((a+1*List.length aS+4*List.length aO:Nat):Int)<0 by omega),aq (show ¬((a+1*List.length aS+4*List.length aO+1*List.length bk:Nat):Int)<0 by omega),aq (show ¬((a+1*List.length aS+4*List.length aO+1*List.length bk+1*List.length aW:Nat):Int)<0 by omega),aq (show ¬((a+1*List.length aS+4*List.length aO+1*List.length bk+1*List.length aW+1*List.length bU:Nat):Int)<0 by omega)]
def aX (x:cB):Nat:=1+1+1+4*List.length x.2.2.2.1
theorem Fm (x:cB):aX x≤4*(1+aI x):=by
 unfold aX aI;omega
theorem C5 (xs:List (cB)):wl aX xs≤4*(List.length xs+wl aI xs):=Cq _ _ 4 Fm xs
def uw (x:cB) (n:Nat) (y:cB):Prop:=y.1=((n:Nat):Int)∧y.2.1=((n+1:Nat):Int)∧y.2.2.1=((n+1+1:Nat):Int)∧jM y.2.2.2.1 ((n+1+1+1:Nat):Int)=some (((n+1+1+1+4*List.length x.2.2.2.1:Nat):Int),())
theorem I3 (l:List (cB)) (k:Nat) (z:cB) (n:Nat) (hk:k<l.length) (Us:k<4611686018427387904) (hz:l[k]?=some z) (hw:aI z≤4194304) (hn:n+aX z≤274894684160):∃y,uw z n y∧fc (l,((n:Nat):Int),((k:Nat):Int),())=some (.inl (l.set k y,((n+aX z:Nat):Int),((k+1:Nat):Int),())):=by
 have hm:n+1+1+1+4*List.length z.2.2.2.1=n+aX z:=by unfold aX;omega
 have b0:n≤549755813888:=by omega
 have b1:n+1≤549755813888:=by omega
 have b2:n+1+1≤549755813888:=by omega
 have b3:n+1+1+1≤549755813888:=by omega
 have hw0:aI z=(List.length z.2.2.2.1+wl bJ z.2.2.2.1):=rfl;obtain ⟨l3,e3,g3,_⟩:=Hf z.2.2.2.1 (n+1+1+1) (by omega) (by omega);refine ⟨(((n:Nat):Int),((n+1:Nat):Int),((n+1+1:Nat):Int),l3,()),⟨rfl,rfl,rfl,g3⟩,?_⟩;rw [←hm];simp only [fc,mw,az hk,au,cond_true,aC,List.length_set,fW hk,hz,List.getElem?_set_self hk,List.set_set,Option.bind_some,e3,kV b0,kV b1,kV b2,aF Us]
theorem I4 (l:List (cB)) (k:Nat) (z y:cB) (n:Nat) (hk:k<l.length) (Us:k<4611686018427387904) (hy:l[k]?=some y) (hd:uw z n y) (hn:n+aX z≤274894684160):ff (l,((n:Nat):Int),((k:Nat):Int),())=some (.inl (l,((n+aX z:Nat):Int),((k+1:Nat):Int),())):=by
 have hm:n+1+1+1+4*List.length z.2.2.2.1=n+aX z:=by unfold aX;omega
 have b0:n≤549755813888:=by omega
 have b1:n+1≤549755813888:=by omega
 have b2:n+1+1≤549755813888:=by omega
 have b3:n+1+1+1≤549755813888:=by omega
 obtain ⟨h0,h1,h2,h3⟩:=hd;rw [←hm];simp only [ff,mz,az hk,au,cond_true,cond_false,aC,hy,decide_true,dB,beq_self_eq_true,Bool.not_true,Option.bind_some,h0,h1,h2,h3,kV b0,kV b1,kV b2,Kp,aF Us]
theorem Ct (xs:List (cB)) (a:Nat) (h:List.length xs+wl aI xs≤4194304) (ha:a≤274877906944):∃l,ir xs ((a:Nat):Int)=some (((a+wl aX xs:Nat):Int),l,())∧eG l ((a:Nat):Int)=some (((a+wl aX xs:Nat):Int),())∧(List.length l=List.length xs∧wl aX xs≤4*(List.length xs+wl aI xs)):=by
 have hm:=C5 xs;obtain ⟨l,h1,h2,h3⟩:=D4 aX uw fc xs a (fun l m hl=>by simp only [fc,mw,hl,aA,cond_false]) (fun l k hk n hl hz hn=>I3 l k xs[k] n (by omega) (by omega) hz (Nat.le_trans (p9 aI xs _ (List.getElem_mem hk)) (by omega)) (by omega));refine ⟨l,?_,?_,h2,hm⟩
 ·unfold ir;rw [h1];rfl
 ·have h4:=D5 aX uw ff xs l a h2 h3 (fun m=>by simp only [ff,mz,h2,aA,cond_false]) (fun k hk n y zO hy hd hn=>I4 l k xs[k] y n zO (by omega) hy hd (by omega));unfold eG;rw [h4];rfl
def aM (x:bX):Nat:=1+1+1*List.length x.2.2.1+1+1+1+1+1*List.length x.q.2.2.1
theorem AK (x:bX):aM x≤6*(1+ax x):=by
 unfold aM ax;omega
theorem zy (xs:List (bX)):wl aM xs≤6*(List.length xs+wl ax xs):=Cq _ _ 6 AK xs
def wx (x:bX) (n:Nat) (y:bX):Prop:=y.1=((n:Nat):Int)∧y.2.1=((n+1:Nat):Int)∧eP y.2.2.1 ((n+1+1:Nat):Int)=some (((n+1+1+1*List.length x.2.2.1:Nat):Int),())∧y.2.2.2.1=((n+1+1+1*List.length x.2.2.1:Nat):Int)∧y.2.2.2.2.1=((n+1+1+1*List.length x.2.2.1+1:Nat):Int)∧y.q.1=((n+1+1+1*List.length x.2.2.1+1+1:Nat):Int)∧y.q.2.1=uu (n+1+1+1*List.length x.2.2.1+1+1+1)∧eP y.q.2.2.1 ((n+1+1+1*List.length x.2.2.1+1+1+1+1:Nat):Int)=some (((n+1+1+1*List.length x.2.2.1+1+1+1+1+1*List.length x.q.2.2.1:Nat):Int),())
theorem Mf (l:List (bX)) (k:Nat) (z:bX) (n:Nat) (hk:k<l.length) (Us:k<4611686018427387904) (hz:l[k]?=some z) (hw:ax z≤4194304) (hn:n+aM z≤274903072768):∃y,wx z n y∧fJ (l,((n:Nat):Int),((k:Nat):Int),())=some (.inl (l.set k y,((n+aM z:Nat):Int),((k+1:Nat):Int),())):=by
 have hm:n+1+1+1*List.length z.2.2.1+1+1+1+1+1*List.length z.q.2.2.1=n+aM z:=by unfold aM;omega
 have b0:n≤549755813888:=by omega
 have b1:n+1≤549755813888:=by omega
 have b2:n+1+1≤549755813888:=by omega
 have b3:n+1+1+1*List.length z.2.2.1≤549755813888:=by omega
 have b4:n+1+1+1*List.length z.2.2.1+1≤549755813888:=by omega
 have b5:n+1+1+1*List.length z.2.2.1+1+1≤549755813888:=by omega
 have b6:n+1+1+1*List.length z.2.2.1+1+1+1≤549755813888:=by omega
 have b7:n+1+1+1*List.length z.2.2.1+1+1+1+1≤549755813888:=by omega
 have hw0:ax z=(List.length z.2.2.1+wl dk z.2.2.1)+ByteArray.size z.q.2.1+(List.length z.q.2.2.1+wl dk z.q.2.2.1):=rfl;obtain ⟨l2,e2,g2,_⟩:=yE z.2.2.1 (n+1+1) (by omega) (by omega);obtain ⟨l7,e7,g7,_⟩:=yE z.q.2.2.1 (n+1+1+1*List.length z.2.2.1+1+1+1+1) (by omega) (by omega);refine ⟨(((n:Nat):Int),((n+1:Nat):Int),l2,((n+1+1+1*List.length z.2.2.1:Nat):Int),((n+1+1+1*List.length z.2.2.1+1:Nat):Int),((n+1+1+1*List.length z.2.2.1+1+1:Nat):Int),uu (n+1+1+1*List.length z.2.2.1+1+1+1),l7,()),⟨rfl,rfl,g2,rfl,rfl,rfl,rfl,g7⟩,?_⟩;rw [←hm];simp only [fJ,nj,az hk,au,cond_true,aC,List.length_set,fW hk,hz,List.getElem?_set_self hk,List.set_set,Option.bind_some,e2,e7,kV b0,kV b1,kV b3,kV b4,kV b5,kV b6,Hd b6,aF Us]
theorem Mg (l:List (bX)) (k:Nat) (z y:bX) (n:Nat) (hk:k<l.length) (Us:k<4611686018427387904) (hy:l[k]?=some y) (hd:wx z n y) (hn:n+aM z≤274903072768):fK (l,((n:Nat):Int),((k:Nat):Int),())=some (.inl (l,((n+aM z:Nat):Int),((k+1:Nat):Int),())):=by
 have hm:n+1+1+1*List.length z.2.2.1+1+1+1+1+1*List.length z.q.2.2.1=n+aM z:=by unfold aM;omega
 have b0:n≤549755813888:=by omega
 have b1:n+1≤549755813888:=by omega
 have b2:n+1+1≤549755813888:=by omega
 have b3:n+1+1+1*List.length z.2.2.1≤549755813888:=by omega
 have b4:n+1+1+1*List.length z.2.2.1+1≤549755813888:=by omega
 have b5:n+1+1+1*List.length z.2.2.1+1+1≤549755813888:=by omega
 have b6:n+1+1+1*List.length z.2.2.1+1+1+1≤549755813888:=by omega
 have b7:n+1+1+1*List.length z.2.2.1+1+1+1+1≤549755813888:=by omega
 obtain ⟨h0,h1,h2,h3,h4,h5,h6,h7⟩:=hd;rw [←hm];simp only [fK,nk,az hk,au,cond_true,cond_false,aC,hy,decide_true,dB,beq_self_eq_true,Bool.not_true,Option.bind_some,h0,h1,h2,h3,h4,h5,h6,h7,kV b0,kV b1,kV b3,kV b4,kV b5,kV b6,Hd b6,Kp,aF Us]
theorem Mh (xs:List (bX)) (a:Nat) (h:List.length xs+wl ax xs≤4194304) (ha:a≤274877906944):∃l,mZ xs ((a:Nat):Int)=some (((a+wl aM xs:Nat):Int),l,())∧m6 l ((a:Nat):Int)=some (((a+wl aM xs:Nat):Int),())∧(List.length l=List.length xs∧wl aM xs≤6*(List.length xs+wl ax xs)):=by
 have hm:=zy xs;obtain ⟨l,h1,h2,h3⟩:=D4 aM wx fJ xs a (fun l m hl=>by simp only [fJ,nj,hl,aA,cond_false]) (fun l k hk n hl hz hn=>Mf l k xs[k] n (by omega) (by omega) hz (Nat.le_trans (p9 ax xs _ (List.getElem_mem hk)) (by omega)) (by omega));refine ⟨l,?_,?_,h2,hm⟩
 ·unfold mZ;rw [h1];rfl
 ·have h4:=D5 aM wx fK xs l a h2 h3 (fun m=>by simp only [fK,nk,h2,aA,cond_false]) (fun k hk n y zO hy hd hn=>Mg l k xs[k] y n zO (by omega) hy hd (by omega));unfold m6;rw [h4];rfl
theorem D6 (bf:Int) (aQ:Bool) (aS:Int) (aO:Int) (bk:aH) (aW:aj) (cu:aH) (cg:fE) (fL:Int) (fM:Int) (cK:Int) (cL:Int) (cM:Int) (cN:Int) (cO:Int) (bU:Int) (iK:Int) (dt:aH) (lq:Int) (lr:Int) (iL:Int) (dz:aH) (dA:af) (dJ:ai) (a:Nat) (h4:List.length bk≤4194304) (h5:List.length aW≤4194304) (h6:List.length cu≤4194304) (h7:List.length cg≤4194304) (h17:List.length dt≤4194304) (h21:List.length dz≤4194304) (h22:List.length dA+wl aI dA≤4194304) (h23:List.length dJ+wl ax dJ≤4194304) (ha:a≤68719476736):∃l4 l5 l6 l7 l17 l21 V1 V2,ev bf aQ aS aO bk aW cu cg fL fM cK cL cM cN cO bU iK dt lq lr iL dz dA dJ ((a:Nat):Int)=some (((a+1*List.length bk+4*List.length aW+1*List.length cu+1*List.length cg+1*List.length dt+1*List.length dz+wl aX dA+wl aM dJ:Nat):Int),l4,l5,l6,l7,l17,l21,V1,V2,())∧fi bf aQ aS aO l4 l5 l6 l7 fL fM cK cL cM cN cO bU iK l17 lq lr iL l21 V1 V2 ((a:Nat):Int)=some (((a+1*List.length bk+4*List.length aW+1*List.length cu+1*List.length cg+1*List.length dt+1*List.length dz+wl aX dA+wl aM dJ:Nat):Int),())∧List.length l4=List.length bk∧List.length l5=List.length aW∧List.length l6=List.length cu∧List.length l7=List.length cg∧List.length l17=List.length dt∧List.length l21=List.length dz∧(List.length V1=List.length dA∧wl aX dA≤4*(List.length dA+wl aI dA))∧(List.length V2=List.length dJ∧wl aM dJ≤6*(List.length dJ+wl ax dJ)):=by
 obtain ⟨l4,l5,l6,l7,l17,e0,g0,nl4,nl5,nl6,nl7,afN⟩:=QL aS aO bk aW cu cg fL fM cK cL cM cN cO bU iK dt (a) h4 h5 h6 h7 h17 (by omega);obtain ⟨l21,e1,g1,afO⟩:=Fl iL dz (a+1*List.length bk+4*List.length aW+1*List.length cu+1*List.length cg+1*List.length dt) h21 (by omega);obtain ⟨V1,e2,g2,afP⟩:=Ct dA (a+1*List.length bk+4*List.length aW+1*List.length cu+1*List.length cg+1*List.length dt+1*List.length dz) h22 (by omega);obtain ⟨V2,e3,g3,afQ⟩:=Mh dJ (a+1*List.length bk+4*List.length aW+1*List.length cu+1*List.length cg+1*List.length dt+1*List.length dz+wl aX dA) h23 (by omega);refine ⟨l4,l5,l6,l7,l17,l21,V1,V2,?_,?_,nl4,nl5,nl6,nl7,afN,afO,afP,afQ⟩
 ·simp only [ev,e0,e1,e2,e3,Option.bind_some]<;>rfl
 ·simp only [fi,g0,g1,g2,g3,Option.bind_some,cond_false,aq (show ¬((a+1*List.length bk+4*List.length aW+1*List.length cu+1*List.length cg+1*List.length dt:Nat):Int)<0 by omega),aq (show ¬((a+1*List.length bk+4*List.length aW+1*List.length cu+1*List.length cg+1*List.length dt+1*List.length dz:Nat):Int)<0 by omega),aq (show ¬((a+1*List.length bk+4*List.length aW+1*List.length cu+1*List.length cg+1*List.length dt+1*List.length dz+wl aX dA:Nat):Int)<0 by omega),aq (show ¬((a+1*List.length bk+4*List.length aW+1*List.length cu+1*List.length cg+1*List.length dt+1*List.length dz+wl aX dA+wl aM dJ:Nat):Int)<0 by omega)]
end Go.TM
set_option linter.unusedSimpArgs false
set_option linter.unusedVariables false
namespace Go.TM
open Go
theorem oJ (a b c:Int):bZ a b c=some (decide (b≤a)&&decide (a≤c),()):=by
 unfold bZ
 cases decide (b≤a)<;>rfl
theorem sP (a b c:Int):cj a b c=some (decide (b≤a)&&decide (a≤c),()):=by
 unfold cj
 cases decide (b≤a)<;>rfl
theorem tu (a:Int):ji a=some (decide (1≤a)&&decide (a≤5),()):=by
 unfold ji;rw [sP];rfl
def Be {A B:Type}:Sum A (Bool×Unit)→Sum B (Bool×Unit)→Prop
 |.inl _,.inl _=>True
 |.inr a,.inr b=>a.1=b.1
 |_,_=>False
theorem qY {k:Nat} (h0:0<k) (h:k<4611686018427387904):IntKind.i64.wrap (((k:Nat):Int)-(1:Int))=(((k-1:Nat)):Int):=by
 rw [ef]<;>omega
theorem Mi (c:Int) (xs:List (Int×Unit)) (h:xs.length≤1048576) :
  ∃e f,aG eT (c,xs,(0:Int),())=some e∧aG lF (c,xs,xs,((List.length xs:Nat):Int),(0:Int),())=some f∧Be e f:=by
 refine ti xs.length (fun k x y=>x=(c,xs,((k:Nat):Int),())∧y=(c,xs,xs,((List.length xs:Nat):Int),((k:Nat):Int),())) Be ?_ ⟨rfl,rfl⟩
 rintro k x y hk ⟨rfl,rfl⟩
 by_cases dG:k<xs.length
 ·simp only [eT,lC,lF,rJ,az dG,au,cond_true,aC,List.getElem?_eq_getElem dG,Option.bind_some,oJ,tu,aF (show k<4611686018427387904 by omega)]
  cases (decide (1≤xs[k].1)&&decide (xs[k].1≤5))
  ·exact .inl ⟨.inr (false,()),.inr (false,()),rfl,rfl,rfl⟩
  ·by_cases h0:0<k
   ·have hp:k-1<xs.length:=by omega
    rw [qY h0 (by omega)];simp only [ak (show (0:Int)<((k:Nat):Int) by omega),Bool.not_true,cond_false,cond_true,au,aC,List.getElem?_eq_getElem hp,Option.bind_some]
    cases decide (xs[k].1≤xs[k-1].1)
    ·exact .inr ⟨dG,_,_,rfl,rfl,rfl,rfl⟩
    ·exact .inl ⟨.inr (false,()),.inr (false,()),rfl,rfl,rfl⟩
   ·have:k=0:=by omega
    subst this;simp only [aq (show ¬(0:Int)<((0:Nat):Int) by omega),Bool.not_true,cond_false];exact .inr ⟨dG,_,_,rfl,rfl,rfl,rfl⟩
 ·have:k=xs.length:=by omega
  subst this;exact .inl ⟨.inl (),.inl (),by simp only [eT,lC,aA,cond_false],by simp only [lF,rJ,aA,cond_false],trivial⟩
theorem wy (c:Int) (xs:List (Int×Unit)) (h:xs.length≤1048576):∃b,dN c xs=some (b,())∧fZ c xs=some (b,())∧(b=true→1≤xs.length∧xs.length≤5):=by
 obtain ⟨e,f,h1,h2,h3⟩:=Mi c xs h;unfold dN fZ;simp only [oJ,sP,Option.bind_some,h1,h2]
 cases (decide (1≤c)&&decide (c≤9))
 ·exact ⟨false,rfl,rfl,fun h=>by cases h⟩
 cases hb:(decide (1≤((List.length xs:Nat):Int))&&decide (((List.length xs:Nat):Int)≤5))
 ·exact ⟨false,rfl,rfl,fun h=>by cases h⟩
 have hl:1≤xs.length∧xs.length≤5:=by
  rw [Bool.and_eq_true,decide_eq_true_eq,decide_eq_true_eq] at hb;omega
 cases e with
 |inl e=>cases f with
  |inl f=>exact ⟨true,rfl,rfl,fun _=>hl⟩
  |inr f=>exact h3.elim
 |inr e=>cases f with
  |inl f=>exact h3.elim
  |inr f=>exact ⟨e.1,rfl,by rw [show e.1=f.1 from h3];rfl,fun _=>hl⟩
end Go.TM
set_option linter.unusedSimpArgs false
set_option linter.unusedVariables false
namespace Go.TM
open Go
def RZ (e:Sum Unit (Bool×Unit)) (f:Sum Unit (Int×Unit)):Prop:=∃b,(e=.inl ()∧f=.inl ()∧b=false)∨(e=.inr (true,())∧(∃k:Nat,f=.inr (((k:Nat):Int),()))∧b=true)
theorem QM (d:Int) (xs:List (Int×Unit)) (h:xs.length≤1048576) :
  ∃e f,aG fN (xs,d,(0:Int),())=some e∧aG gU (xs,d,((List.length xs:Nat):Int),(0:Int),())=some f∧RZ e f:=by
 refine ti xs.length (fun k x y=>x=(xs,d,((k:Nat):Int),())∧y=(xs,d,((List.length xs:Nat):Int),((k:Nat):Int),())) RZ ?_ ⟨rfl,rfl⟩
 rintro k x y hk ⟨rfl,rfl⟩
 by_cases dG:k<xs.length
 ·simp only [fN,mM,gU,ml,az dG,au,cond_true,aC,List.getElem?_eq_getElem dG,Option.bind_some,aF (show k<4611686018427387904 by omega)]
  by_cases hd:xs[k].1=d
  ·rw [ak hd,ak hd.symm];exact .inl ⟨.inr (true,()),.inr (((k:Nat):Int),()),rfl,rfl,true,.inr ⟨rfl,⟨k,rfl⟩,rfl⟩⟩
  ·rw [aq hd,aq (fun e=>hd e.symm)];exact .inr ⟨dG,_,_,rfl,rfl,rfl,rfl⟩
 ·have:k=xs.length:=by omega
  subst this;exact .inl ⟨.inl (),.inl (),by simp only [fN,mM,aA,cond_false],by simp only [gU,ml,aA,cond_false],false,.inl ⟨rfl,rfl,rfl⟩⟩
theorem pF (d:Int) (xs:List (Int×Unit)) (h:xs.length≤1048576):∃b,dV xs d=some (b,())∧cI xs d=some (b,()):=by
 obtain ⟨e,f,h1,h2,b,h3⟩:=QM d xs h;unfold dV cI oY;rw [h1,h2];rcases h3 with ⟨rfl,rfl,rfl⟩ | ⟨rfl,⟨k,rfl⟩,rfl⟩
 ·exact ⟨false,rfl,rfl⟩
 ·refine ⟨true,rfl,?_⟩;simp only [cT,Option.bind_some,au]
end Go.TM
set_option linter.unusedSimpArgs false
set_option linter.unusedVariables false
namespace Go.TM
open Go
def Pb (t:Int×Int×Int×Int×Int×(List (Int×Unit))×Unit):Sum Unit (Bool×Unit)→Sum (Int×Int×Int×Int×Int×(List (Int×Unit))×Unit) (Bool×Unit)→Prop
 |.inl _,.inl z=>z=t
 |.inr a,.inr b=>a.1=false∧b.1=false
 |_,_=>False
theorem I5 (c0 c1 c2 c3 c4:Int) (xs:List (Int×Unit)) (h:xs.length≤1048576) :
  ∃e f,aG ej (c0,c1,c2,c3,c4,xs,(0:Int),())=some e∧aG kq (c0,c1,c2,c3,c4,xs,xs,((List.length xs:Nat):Int),(0:Int),())=some f∧Pb (c0,c1,c2,c3,c4,xs,()) e f:=by
 refine ti xs.length (fun k x y=>x=(c0,c1,c2,c3,c4,xs,((k:Nat):Int),())∧y=(c0,c1,c2,c3,c4,xs,xs,((List.length xs:Nat):Int),((k:Nat):Int),())) (Pb (c0,c1,c2,c3,c4,xs,())) ?_ ⟨rfl,rfl⟩
 rintro k x y hk ⟨rfl,rfl⟩
 by_cases dG:k<xs.length
 ·simp only [ej,km,kq,qj,az dG,au,cond_true,aC,List.getElem?_eq_getElem dG,Option.bind_some,oJ,sP,aF (show k<4611686018427387904 by omega)]
  cases (decide (1≤xs[k].1)&&decide (xs[k].1≤c2))
  ·exact .inl ⟨.inr (false,()),.inr (false,()),rfl,rfl,rfl,rfl⟩
  ·by_cases h0:0<k
   ·have hp:k-1<xs.length:=by omega
    rw [qY h0 (by omega)];simp only [ak (show (0:Int)<((k:Nat):Int) by omega),Bool.not_true,cond_false,cond_true,au,aC,List.getElem?_eq_getElem hp,Option.bind_some]
    cases decide (xs[k].1≤xs[k-1].1)
    ·exact .inr ⟨dG,_,_,rfl,rfl,rfl,rfl⟩
    ·exact .inl ⟨.inr (false,()),.inr (false,()),rfl,rfl,rfl,rfl⟩
   ·have:k=0:=by omega
    subst this;simp only [aq (show ¬(0:Int)<((0:Nat):Int) by omega),Bool.not_true,cond_false];exact .inr ⟨dG,_,_,rfl,rfl,rfl,rfl⟩
 ·have:k=xs.length:=by omega
  subst this;exact .inl ⟨.inl (),.inl (c0,c1,c2,c3,c4,xs,()),by simp only [ej,km,aA,cond_false],by simp only [kq,qj,aA,cond_false],rfl⟩
theorem xA (c0 c1 c2 c3 c4:Int) (xs:List (Int×Unit)) (h:xs.length≤1048576):∃b,gZ c0 c1 c2 c3 c4 xs=some (b,())∧lX c0 c1 c2 c3 c4 xs=some (b,())∧(b=true→0≤c2∧c2≤60∧0≤c3∧c3≤c2∧xs.length≤20∧(∀y∈[c0,c1],1≤y)):=by
 obtain ⟨e,f,h1,h2,h3⟩:=I5 c0 c1 c2 c3 c4 xs h;unfold gZ lX;simp only [oJ,sP,Option.bind_some,h1,h2]
 cases q0:(decide (1≤c0)&&decide (c0≤9))
 ·exact ⟨false,rfl,rfl,fun h=>by cases h⟩
 cases q1:(decide (1≤c1)&&decide (c1≤1000000000))
 ·exact ⟨false,rfl,rfl,fun h=>by cases h⟩
 cases q2:(decide (0≤c2)&&decide (c2≤60))
 ·exact ⟨false,rfl,rfl,fun h=>by cases h⟩
 cases e with
 |inl e=>cases f with
  |inl f=>
   have h3:f=(c0,c1,c2,c3,c4,xs,()):=h3;subst h3;simp only [cT,Option.bind_some,sP,Bool.not_true,cond_false]
   cases q3:(decide (0≤c3)&&decide (c3≤c2))
   ·exact ⟨false,rfl,rfl,fun h=>by cases h⟩
   cases (decide (0≤c4)&&decide (c4≤5))
   ·exact ⟨false,rfl,rfl,fun h=>by cases h⟩
   by_cases hl:((List.length xs:Nat):Int)≤20
   ·rw [ak hl,aq (show ¬(20:Int)<((List.length xs:Nat):Int) by omega)];refine ⟨true,rfl,rfl,fun _ => ?_⟩;rw [Bool.and_eq_true,decide_eq_true_eq,decide_eq_true_eq] at q0 q1 q2 q3;refine ⟨q2.1,q2.2,q3.1,q3.2,by omega,fun y hy => ?_⟩;rcases List.mem_cons.1 hy with rfl | hy
    ·exact q0.1
    ·rcases List.mem_cons.1 hy with rfl | hy
     ·exact q1.1
     ·cases hy
   ·rw [aq hl,ak (show (20:Int)<((List.length xs:Nat):Int) by omega)];exact ⟨false,rfl,rfl,fun h=>by cases h⟩
  |inr f=>exact h3.elim
 |inr e=>cases f with
  |inl f=>exact h3.elim
  |inr f=>
   obtain ⟨e1,e2⟩:=(show e.1=false∧f.1=false from h3);refine ⟨false,?_,by rw [←e2];rfl,fun h=>by cases h⟩
   cases (decide (0≤c3)&&decide (c3≤c2))
   ·rfl
   cases (decide (0≤c4)&&decide (c4≤5))
   ·rfl
   cases decide ((20:Int)<((List.length xs:Nat):Int))
   ·show some (e.1,())=some (false,());rw [e1]
   ·rfl
theorem nw (xs:List (Int×Unit)) (h:xs.length≤1048576):dh xs=some (xs,()):=by
 unfold dh;rw [bh (show (0+xs.length)*8≤lim by unfold lim;omega)];rfl
theorem Fo (c0 c1 c2 c3 c4:Int) (xs:List (Int×Unit)) (h:xs.length≤1048576):kY c0 c1 c2 c3 c4 xs=some (c0,c1,c2,c3,c4,xs,())∧n7 c0 c1 c2 c3 c4 xs=some (c0,c1,c2,c3,c4,xs,()):=by
 constructor
 ·unfold kY;rw [bh (show (0+xs.length)*8≤lim by unfold lim;omega)];rfl
 ·unfold n7;rw [nw xs h];rfl
def Cu (c2:Int) (xs:List (Int×Unit)) (n:Nat):Prop:=∀k (h:k<xs.length),k<n→1≤xs[k].1∧xs[k].1≤c2∧∀h0:0<k,xs[k-1].1<xs[k].1
def aa3 (c0 c1 c2 c3 c4:Int) (xs:List (Int×Unit)):Prop:=(1≤c0∧c0≤9)∧(1≤c1∧c1≤1000000000)∧(0≤c2∧c2≤60)∧(0≤c3∧c3≤c2)∧(0≤c4∧c4≤5)∧xs.length≤20∧Cu c2 xs xs.length
theorem Mj (c0 c1 c2 c3 c4:Int) (xs:List (Int×Unit)) (h:xs.length≤1048576):∃b,gZ c0 c1 c2 c3 c4 xs=some (b,())∧lX c0 c1 c2 c3 c4 xs=some (b,())∧(b=true↔aa3 c0 c1 c2 c3 c4 xs):=by
 obtain ⟨b,h1,h2,_⟩:=xA c0 c1 c2 c3 c4 xs h;refine ⟨b,h1,h2,?_⟩;obtain ⟨e,he,hq⟩:=fV (round:=ej) (x:=(c0,c1,c2,c3,c4,xs,((0:Nat):Int),())) xs.length (fun k x=>x=(c0,c1,c2,c3,c4,xs,((k:Nat):Int),())∧Cu c2 xs k)
  (fun e=>(e=.inl ()∧Cu c2 xs xs.length)∨(e=.inr (false,())∧¬Cu c2 xs xs.length)) (by
   rintro x ⟨rfl,g⟩
   exact ⟨.inl (),by simp only [ej,km,aA,cond_false],.inl ⟨rfl,g⟩⟩) (by
   rintro k x dG ⟨rfl,g⟩
   simp only [ej,km,az dG,au,cond_true,aC,List.getElem?_eq_getElem dG,Option.bind_some,oJ,aF (show k<4611686018427387904 by omega)];have more:1≤xs[k].1→xs[k].1≤c2→(∀h0:0<k,xs[k-1].1<xs[k].1)→Cu c2 xs (k+1):=by
    intro w1 w2 w3 j hj zk
    by_cases e:j<k
    ·exact g j hj e
    ·have:j=k:=by omega
     subst this;exact ⟨w1,w2,w3⟩
   cases zR:(decide (1≤xs[k].1)&&decide (xs[k].1≤c2))
   ·refine .inl ⟨.inr (false,()),rfl,.inr ⟨rfl,fun hn => ?_⟩⟩;obtain ⟨w1,w2,_⟩:=hn k dG dG;rw [ak w1,ak w2] at zR
    cases zR
   ·rw [Bool.and_eq_true,decide_eq_true_eq,decide_eq_true_eq] at zR
    by_cases h0:0<k
    ·have hp:k-1<xs.length:=by omega
     rw [qY h0 (by omega)];simp only [ak (show (0:Int)<((k:Nat):Int) by omega),Bool.not_true,cond_false,cond_true,au,aC,List.getElem?_eq_getElem hp,Option.bind_some]
     by_cases hd:xs[k].1≤xs[k-1].1
     ·rw [ak hd];refine .inl ⟨.inr (false,()),rfl,.inr ⟨rfl,fun hn => ?_⟩⟩;have:=(hn k dG dG).2.2 h0;omega
     ·rw [aq hd];exact .inr ⟨_,rfl,rfl,more zR.1 zR.2 (fun _=>by omega)⟩
    ·have:k=0:=by omega
     subst this;simp only [aq (show ¬(0:Int)<((0:Nat):Int) by omega),Bool.not_true,cond_false];exact .inr ⟨_,rfl,rfl,more zR.1 zR.2 (fun h0=>absurd h0 (Nat.lt_irrefl 0))⟩) ⟨rfl,fun j _ h=>by omega⟩
 have he:aG ej (c0,c1,c2,c3,c4,xs,(0:Int),())=some e:=he;unfold gZ at h1;simp only [oJ,Option.bind_some,he] at h1;have no:∀ {p:Prop},(some (false,()):Option (Bool×Unit))=some (b,())→¬p→(b=true↔p):=by
  intro p e1 hp;injection e1 with e1;injection e1 with e1;subst e1;exact ⟨(fun h=>by cases h),fun h=>absurd h hp⟩
 have yes:∀ {p:Prop},(some (true,()):Option (Bool×Unit))=some (b,())→p→(b=true↔p):=by
  intro p e1 hp;injection e1 with e1;injection e1 with e1;subst e1;exact ⟨fun _=>hp,fun _=>rfl⟩
 by_cases q0:1≤c0∧c0≤9
 case neg=>
  rw [show (decide (1≤c0)&&decide (c0≤9))=false by rw [Bool.and_eq_false_iff,decide_eq_false_iff_not,decide_eq_false_iff_not];omega] at h1;exact no h1 (fun h=>q0 h.1)
 rw [ak q0.1,ak q0.2] at h1
 by_cases q1:1≤c1∧c1≤1000000000
 case neg=>
  rw [show (decide (1≤c1)&&decide (c1≤1000000000))=false by rw [Bool.and_eq_false_iff,decide_eq_false_iff_not,decide_eq_false_iff_not];omega] at h1;exact no h1 (fun h=>q1 h.2.1)
 rw [ak q1.1,ak q1.2] at h1
 by_cases q2:0≤c2∧c2≤60
 case neg=>
  rw [show (decide (0≤c2)&&decide (c2≤60))=false by rw [Bool.and_eq_false_iff,decide_eq_false_iff_not,decide_eq_false_iff_not];omega] at h1;exact no h1 (fun h=>q2 h.2.2.1)
 rw [ak q2.1,ak q2.2] at h1
 by_cases q3:0≤c3∧c3≤c2
 case neg=>
  rw [show (decide (0≤c3)&&decide (c3≤c2))=false by rw [Bool.and_eq_false_iff,decide_eq_false_iff_not,decide_eq_false_iff_not];omega] at h1;exact no h1 (fun h=>q3 h.2.2.2.1)
 rw [ak q3.1,ak q3.2] at h1
 by_cases q4:0≤c4∧c4≤5
 case neg=>
  rw [show (decide (0≤c4)&&decide (c4≤5))=false by rw [Bool.and_eq_false_iff,decide_eq_false_iff_not,decide_eq_false_iff_not];omega] at h1;exact no h1 (fun h=>q4 h.2.2.2.2.1)
 rw [ak q4.1,ak q4.2] at h1
 by_cases q5:(20:Int)<((List.length xs:Nat):Int)
 ·rw [ak q5] at h1;exact no h1 (fun h=>by have:=h.q.1;omega)
 rw [aq q5] at h1;rcases hq with ⟨rfl,q⟩ | ⟨rfl,q⟩
 ·exact yes h1 ⟨q0,q1,q2,q3,q4,by omega,q⟩
 ·exact no h1 (fun h=>q h.q.2)
end Go.TM
set_option linter.unusedSimpArgs false
set_option linter.unusedVariables false
namespace Go.TM
open Go
theorem Cv (a:Int):n6 a=some (decide (1≤a)&&decide (a≤2),()):=by
 unfold n6
 by_cases h1:a=1
 ·subst h1;rfl
 by_cases h2:a=2
 ·subst h2;rfl
 have e:(decide (1≤a)&&decide (a≤2))=false:=by
  rw [Bool.and_eq_false_iff,decide_eq_false_iff_not,decide_eq_false_iff_not];omega
 rw [e,aq h1,aq h2];rfl
theorem Mk (a b c:Int) (s:ByteArray):∃x,iZ a b c s=some (x,())∧lG a b c s=some (x,()):=by
 unfold iZ lG;simp only [oJ,sP,tu,Cv,Option.bind_some]
 cases (decide (1≤a)&&decide (a≤60))
 ·exact ⟨_,rfl,rfl⟩
 cases (decide (1≤b)&&decide (b≤5))
 ·exact ⟨_,rfl,rfl⟩
 cases (decide (1≤c)&&decide (c≤2))
 ·exact ⟨_,rfl,rfl⟩
 ·exact ⟨_,rfl,rfl⟩
theorem I6 (xs:List (Int×Int×Int×ByteArray×Unit)) (h:xs.length≤1048576) :
  ∃e f,aG eg (xs,(0:Int),())=some e∧aG ko (xs,xs,((List.length xs:Nat):Int),(0:Int),())=some f∧Be e f:=by
 refine ti xs.length (fun k x y=>x=(xs,((k:Nat):Int),())∧y=(xs,xs,((List.length xs:Nat):Int),((k:Nat):Int),())) Be ?_ ⟨rfl,rfl⟩
 rintro k x y hk ⟨rfl,rfl⟩
 by_cases dG:k<xs.length
 ·obtain ⟨b,r1,r2⟩:=Mk xs[k].1 xs[k].2.1 xs[k].2.2.1 xs[k].2.2.2.1;simp only [eg,kj,ko,qi,az dG,au,cond_true,aC,List.getElem?_eq_getElem dG,Option.bind_some,r1,r2,aF (show k<4611686018427387904 by omega)]
  cases b
  ·exact .inl ⟨.inr (false,()),.inr (false,()),rfl,rfl,rfl⟩
  ·by_cases h0:0<k
   ·have hp:k-1<xs.length:=by omega
    rw [qY h0 (by omega)];simp only [ak (show (0:Int)<((k:Nat):Int) by omega),Bool.not_true,cond_false,cond_true,au,aC,List.getElem?_eq_getElem hp,Option.bind_some]
    cases decide (xs[k].1≤xs[k-1].1)
    ·exact .inr ⟨dG,_,_,rfl,rfl,rfl,rfl⟩
    ·exact .inl ⟨.inr (false,()),.inr (false,()),rfl,rfl,rfl⟩
   ·have:k=0:=by omega
    subst this;simp only [aq (show ¬(0:Int)<((0:Nat):Int) by omega),Bool.not_true,cond_false];exact .inr ⟨dG,_,_,rfl,rfl,rfl,rfl⟩
 ·have:k=xs.length:=by omega
  subst this;exact .inl ⟨.inl (),.inl (),by simp only [eg,kj,aA,cond_false],by simp only [ko,qi,aA,cond_false],trivial⟩
theorem xB (xs:List (Int×Int×Int×ByteArray×Unit)) (h:xs.length≤1048576):∃b,eU xs=some (b,())∧jc xs=some (b,()):=by
 obtain ⟨e,f,h1,h2,h3⟩:=I6 xs h;unfold eU jc;rw [h1,h2]
 cases e with
 |inl e=>cases f with
  |inl f=>exact ⟨true,rfl,rfl⟩
  |inr f=>exact h3.elim
 |inr e=>cases f with
  |inl f=>exact h3.elim
  |inr f=>exact ⟨e.1,rfl,by rw [show e.1=f.1 from h3];rfl⟩
abbrev jN:Type:=Int×Int×Int×ByteArray×Unit
abbrev bM:Type:=List jN
def ka (xs:bM) (s:Int):Option jN:=xs.find? fun r=>decide (r.1=s)
def Fp:Option jN→Int×Int×Int×ByteArray×Bool×Unit
 |none=>(0,0,0,ByteArray.empty,false,())
 |some r=>(r.1,r.2.1,r.2.2.1,r.2.2.2.1,true,())
def Kq:Option jN→Sum (Int×Int×Int×ByteArray×Unit) (Int×Int×Int×ByteArray×Bool×Unit)
 |none=>.inl (0,0,0,ByteArray.empty,())
 |some r=>.inr (Fp (some r))
theorem D7 (xs:bM) (s:Int) {k:Nat} (hk:k<xs.length):ka (xs.drop k) s=if xs[k].1=s then some xs[k] else ka (xs.drop (k+1)) s:=by
 unfold ka;rw [List.drop_eq_getElem_cons hk,List.find?_cons]
 by_cases h:xs[k].1=s
 ·rw [ak h,if_pos h]
 ·rw [aq h,if_neg h]
theorem Hg (xs:bM) (s:Int) (h:xs.length≤1048576):sm xs s=some (Fp (ka xs s)):=by
 have hl:=pP (round:=jE) (n:=xs.length) (fun k=>(xs,s,(0:Int),(0:Int),(0:Int),ByteArray.empty,((k:Nat):Int),())) (fun k=>some (Kq (ka (xs.drop k) s)))
  ⟨.inl (0,0,0,ByteArray.empty,()),by simp only [jE,rF,aA,cond_false],by rw [List.drop_length];rfl⟩ (fun k hk=>by
   rw [D7 xs s hk];simp only [jE,rF,az hk,au,cond_true,aC,List.getElem?_eq_getElem hk,Option.bind_some,aF (show k<4611686018427387904 by omega)]
   by_cases h:xs[k].1=s
   ·rw [ak h,if_pos h];exact .inl ⟨_,rfl,rfl⟩
   ·rw [aq h,if_neg h];exact .inr ⟨rfl,rfl⟩) 0 (Nat.zero_le _)
 unfold sm;have hl:aG jE (xs,s,(0:Int),(0:Int),(0:Int),ByteArray.empty,(0:Int),())=_:=hl;rw [hl,List.drop_zero]
 cases ka xs s<;>rfl
theorem Hh (xs:bM) (s:Int) (h:xs.length≤1048576):so xs s=some (Fp (ka xs s)):=by
 have hl:=pP (round:=jI) (n:=xs.length) (fun k=>(s,(0:Int),(0:Int),(0:Int),ByteArray.empty,xs,((List.length xs:Nat):Int),((k:Nat):Int),())) (fun k=>some (Kq (ka (xs.drop k) s)))
  ⟨.inl (0,0,0,ByteArray.empty,()),by simp only [jI,rK,aA,cond_false],by rw [List.drop_length];rfl⟩ (fun k hk=>by
   rw [D7 xs s hk];simp only [jI,rK,az hk,au,cond_true,aC,List.getElem?_eq_getElem hk,Option.bind_some,aF (show k<4611686018427387904 by omega)]
   by_cases h:xs[k].1=s
   ·rw [ak h,if_pos h];exact .inl ⟨_,rfl,rfl⟩
   ·rw [aq h,if_neg h];exact .inr ⟨rfl,rfl⟩) 0 (Nat.zero_le _)
 unfold so;have hl:aG jI (s,(0:Int),(0:Int),(0:Int),ByteArray.empty,xs,((List.length xs:Nat):Int),(0:Int),())=_:=hl;rw [hl,List.drop_zero]
 cases ka xs s<;>rfl
theorem Ak:(n:Nat)→(ys:List Int)→(∀i,i<n→((i+1:Nat):Int)∈ys)→n≤ys.length
 |0,_,_=>Nat.zero_le _
 |n+1,ys,h=>by
  have hm:=h n (by omega);have:=Ak n (ys.erase ((n+1:Nat):Int)) (fun i hi=>(List.mem_erase_of_ne (by omega)).2 (h i (by omega)));rw [List.length_erase_of_mem hm] at this;have:0<ys.length:=List.length_pos_of_mem hm;omega
theorem I7 {xs:bM} {s:Int} {r:jN} (h:ka xs s=some r):r∈xs∧r.1=s:=by
 unfold ka at h;exact ⟨List.mem_of_find?_eq_some h,by have:=List.find?_some h;simpa using this⟩
def Kr (xs:bM) (n:Nat):Prop:=n≤xs.length∧(∀i,i<n→(ka xs ((i+1:Nat):Int)).isSome=true)∧ka xs ((n+1:Nat):Int)=none
theorem QN {xs:bM} (h:∀i,i<xs.length→(ka xs ((i+1:Nat):Int)).isSome=true):ka xs ((xs.length+1:Nat):Int)=none:=by
 cases hq:ka xs ((xs.length+1:Nat):Int) with
 |none=>rfl
 |some r=>
  have key:=Ak (xs.length+1) (xs.map (·.1)) (fun i hi=>by
   have:∃r,ka xs ((i+1:Nat):Int)=some r:=by
    by_cases UR:i<xs.length
    ·exact Option.isSome_iff_exists.1 (h i UR)
    ·have:i=xs.length:=by omega
     subst this;exact ⟨r,hq⟩
   obtain ⟨r',hr⟩:=this;obtain ⟨m1,m2⟩:=I7 hr;exact List.mem_map.2 ⟨r',m1,m2⟩)
  rw [List.length_map] at key;omega
theorem Cw (xs:bM) (h:xs.length≤1048576):∃n:Nat,lD xs=some (((n:Nat):Int),())∧ni xs=some (((n:Nat):Int),())∧Kr xs n:=by
 obtain ⟨e,f,h1,h2,n,h3⟩:∃e f,aG py (xs,(0:Int),(0:Int),())=some e∧aG pA (xs,(0:Int),())=some f∧∃n:Nat,(e=.inl (((n:Nat):Int),())∨e=.inr (((n:Nat):Int),()))∧f=.inr (((n:Nat):Int),())∧Kr xs n:=by
  refine ti xs.length (fun k x y=>x=(xs,((k:Nat):Int),((k:Nat):Int),())∧y=(xs,((k:Nat):Int),())∧∀i,i<k→(ka xs ((i+1:Nat):Int)).isSome=true) _ ?_ ⟨rfl,rfl,fun i hi=>by omega⟩
  rintro k x y hk ⟨rfl,rfl,ot⟩
  simp only [py,wV,pA,wW,aF (show k<4611686018427387904 by omega),Hg xs _ h,Hh xs _ h,Option.bind_some]
  by_cases dG:k<xs.length
  ·rw [az dG]
   cases hq:ka xs ((k+1:Nat):Int) with
   |none=>exact .inl ⟨.inr (((k:Nat):Int),()),.inr (((k:Nat):Int),()),rfl,rfl,k,.inr rfl,rfl,hk,ot,hq⟩
   |some r=>
    refine .inr ⟨dG,_,_,rfl,rfl,rfl,rfl,fun i hi => ?_⟩
    by_cases UR:i<k
    ·exact ot i UR
    ·have:i=k:=by omega
     subst this;rw [hq];rfl
  ·have:k=xs.length:=by omega
   subst this;have hq:=QN ot;rw [aA,hq];exact .inl ⟨.inl (((xs.length:Nat):Int),()),.inr (((xs.length:Nat):Int),()),rfl,rfl,xs.length,.inl rfl,rfl,hk,ot,hq⟩
 obtain ⟨h3,rfl,h4⟩:=h3;unfold lD ni;rw [h1,h2];refine ⟨n,?_,rfl,h4⟩;rcases h3 with rfl | rfl<;>rfl
end Go.TM
set_option linter.unusedSimpArgs false
set_option linter.unusedVariables false
namespace Go.TM
open Go
abbrev EvR:Type:=Int×Int×(List (Int×Unit))×Int×Int×Int×ByteArray×(List (Int×Unit))×Unit
theorem Cx (xs:List EvR) {k:Nat} (hk:k<xs.length) (h:xs.length+wl ax xs≤1048576):xs[k].2.2.1.length≤1048576∧xs[k].q.2.2.1.length≤1048576:=by
 have hw:=p9 ax xs xs[k] (List.getElem_mem hk);have:ax xs[k]=(List.length xs[k].2.2.1+wl dk xs[k].2.2.1)+ByteArray.size xs[k].q.2.1+(List.length xs[k].q.2.2.1+wl dk xs[k].q.2.2.1):=rfl;omega
theorem AL (xs:List EvR) (h:xs.length+wl ax xs≤1048576):fH xs=some (xs,()):=by
 have hl:=bT (round:=cw) (e:=.inl (xs,())) xs.length (fun k=>(xs,xs.take k,((k:Nat):Int),())) (by
  simp only [cw,fC,aA,cond_false,List.take_length]) (fun k hk=>by
  obtain ⟨e1,e2⟩:=Cx xs hk h;simp only [cw,fC,az hk,au,cond_true,aC,List.getElem?_eq_getElem hk,Option.bind_some,List.length_take,Nat.min_eq_left (Nat.le_of_lt hk),bh (show (0+xs[k].2.2.1.length)*8≤lim by unfold lim;omega),bh (show (0+xs[k].q.2.2.1.length)*8≤lim by unfold lim;omega),bh (show (k+1)*104≤lim by unfold lim;omega),aF (show k<4611686018427387904 by omega),List.nil_append];rw [List.take_succ_eq_append_getElem hk])
 have hl:aG cw (xs,[],(0:Int),())=_:=hl;unfold fH;rw [hl];rfl
theorem AM (xs:List EvR) (h:xs.length+wl ax xs≤1048576):qL xs=some (xs,()):=by
 have hl:=bT (round:=iQ) (e:=.inl (xs,())) xs.length (fun k=>(xs.take k,xs,((xs.length:Nat):Int),((k:Nat):Int),())) (by
  simp only [iQ,qk,aA,cond_false,List.take_length]) (fun k hk=>by
  obtain ⟨e1,e2⟩:=Cx xs hk h;simp only [iQ,qk,rM,bw,nw _ e1,nw _ e2,az hk,au,cond_true,aC,List.getElem?_eq_getElem hk,Option.bind_some,List.length_take,Nat.min_eq_left (Nat.le_of_lt hk),bh (show (k+1)*104≤lim by unfold lim;omega),aF (show k<4611686018427387904 by omega)];rw [List.take_succ_eq_append_getElem hk])
 have hl:aG iQ ([],xs,((xs.length:Nat):Int),(0:Int),())=_:=hl;unfold qL;rw [hl];rfl
end Go.TM
set_option linter.unusedSimpArgs false
set_option linter.unusedVariables false
namespace Go.TM
open Go
theorem Al (a b c:Int) (xs:List (Int×Int×Int×ByteArray×Unit)) (h:xs.length≤1048576):∃x,hM a b c xs=some (x,())∧kC a b c xs=some (x,()):=by
 obtain ⟨y,h1,h2⟩:=xB xs h;unfold hM kC;simp only [oJ,sP,tu,Option.bind_some,h1,h2]
 cases (decide (1≤a)&&decide (a≤5))
 ·exact ⟨_,rfl,rfl⟩
 cases (decide (1≤b)&&decide (b≤9))
 ·exact ⟨_,rfl,rfl⟩
 cases (decide (0≤c)&&decide (c≤IntKind.i64.wrap (b-1)))
 ·exact ⟨_,rfl,rfl⟩
 cases y
 ·exact ⟨_,rfl,rfl⟩
 cases decide (0<c)
 ·exact ⟨_,rfl,rfl⟩
 ·exact ⟨_,rfl,rfl⟩
abbrev gj:Type:=Int×Int×Int×bM×Unit
noncomputable def tv (b:gj):Bool:=match hM b.1 b.2.1 b.2.2.1 b.2.2.2.1 with | some x=>x.1 | none=>false
theorem uz (b:gj) (h:b.2.2.2.1.length≤1048576):hM b.1 b.2.1 b.2.2.1 b.2.2.2.1=some (tv b,())∧kC b.1 b.2.1 b.2.2.1 b.2.2.2.1=some (tv b,()):=by
 obtain ⟨x,h1,h2⟩:=Al b.1 b.2.1 b.2.2.1 b.2.2.2.1 h;have:tv b=x:=by unfold tv;rw [h1]
 rw [this];exact ⟨h1,h2⟩
theorem yF (xs:List gj) {k:Nat} (hk:k<xs.length) (h:xs.length+wl aI xs≤1048576):xs[k].2.2.2.1.length≤1048576:=by
 have hw:=p9 aI xs xs[k] (List.getElem_mem hk);have:aI xs[k]=List.length xs[k].2.2.2.1+wl bJ xs[k].2.2.2.1:=rfl;omega
structure kZ (xs:List gj):Prop where
 len:xs.length≤4194304
 each:∀b∈xs,b.2.2.2.1.length≤1048576
theorem kZ.at {xs:List gj} (h:kZ xs) {k:Nat} (hk:k<xs.length):xs[k].2.2.2.1.length≤1048576:=h.each _ (List.getElem_mem hk)
theorem kZ.of {xs:List gj} (h:xs.length+wl aI xs≤1048576):kZ xs:=⟨by omega,fun b hb=>by
 obtain ⟨k,hk,rfl⟩:=List.mem_iff_getElem.1 hb;exact yF xs hk h⟩
theorem kZ.more {xs:List gj} (h:xs.length+wl aI xs≤1048576) {b:gj} (hb:b.2.2.2.1.length≤1048576):kZ (xs++[b]):=⟨by rw [List.length_append,List.length_singleton];omega,fun x hx=>by
 rcases List.mem_append.1 hx with hx | hx
 ·exact (kZ.of h).each x hx
 ·rw [List.mem_singleton] at hx;subst hx;exact hb⟩
noncomputable def jo (xs:List gj) (c id:Int):Option gj:=xs.find? fun b=>decide (b.1=id)&&(decide (b.2.1=c)&&tv b)
abbrev rP:Option gj→Int×Int×Int×bM×Bool×Unit
 |none=>(0,0,0,[],false,())
 |some b=>(b.1,b.2.1,b.2.2.1,b.2.2.2.1,true,())
def Pc:Option gj→Sum (Int×Int×Int×bM×Unit) (Int×Int×Int×bM×Bool×Unit)
 |none=>.inl (0,0,0,[],())
 |some b=>.inr (rP (some b))
theorem Hi (xs:List gj) (c id:Int) {k:Nat} (hk:k<xs.length):jo (xs.drop k) c id=if (decide (xs[k].1=id)&&(decide (xs[k].2.1=c)&&tv xs[k]))=true then some xs[k] else jo (xs.drop (k+1)) c id:=by
 unfold jo;rw [List.drop_eq_getElem_cons hk,List.find?_cons]
 cases (decide (xs[k].1=id)&&(decide (xs[k].2.1=c)&&tv xs[k]))<;>rfl
theorem zA {xs:List gj} {c id:Int} {b:gj} (h:jo xs c id=some b):b∈xs∧b.1=id∧b.2.1=c∧tv b=true:=by
 unfold jo at h;have:=List.find?_some h;simp only [Bool.and_eq_true,decide_eq_true_eq] at this;exact ⟨List.mem_of_find?_eq_some h,this⟩
theorem rQ (bj:Int) (bl:List (Int×Unit)) (xs:List gj) (id:Int) (h:kZ xs):di bj bl xs id=some (rP (jo xs bj id)):=by
 have Nl:=h.len;have hl:=pP (round:=ig) (n:=xs.length) (fun k=>(xs,id,bj,bl,(0:Int),(0:Int),(0:Int),[],((k:Nat):Int),())) (fun k=>some (Pc (jo (xs.drop k) bj id)))
  ⟨.inl (0,0,0,[],()),by simp only [ig,oX,aA,cond_false],by rw [List.drop_length];rfl⟩ (fun k hk=>by
   have hb:=(uz xs[k] (h.at hk)).1;rw [Hi xs bj id hk];simp only [ig,oX,az hk,au,cond_true,aC,List.getElem?_eq_getElem hk,Option.bind_some,hb,aF (show k<4611686018427387904 by omega)]
   cases decide (xs[k].1=id)
   ·exact .inr ⟨rfl,rfl⟩
   cases decide (xs[k].2.1=bj)
   ·exact .inr ⟨rfl,rfl⟩
   cases tv xs[k]
   ·exact .inr ⟨rfl,rfl⟩
   ·exact .inl ⟨_,rfl,rfl⟩) 0 (Nat.zero_le _)
 unfold di;have hl:aG ig (xs,id,bj,bl,(0:Int),(0:Int),(0:Int),[],(0:Int),())=_:=hl;rw [hl,List.drop_zero]
 cases jo xs bj id<;>rfl
theorem uA (bj:Int) (bl:List (Int×Unit)) (xs:List gj) (id:Int) (h:kZ xs):jk bj bl xs id=some (rP (jo xs bj id)):=by
 have Nl:=h.len;have hl:=pP (round:=il) (n:=xs.length) (fun k=>(id,bj,bl,(0:Int),(0:Int),(0:Int),[],xs,((xs.length:Nat):Int),((k:Nat):Int),())) (fun k=>some (Pc (jo (xs.drop k) bj id)))
  ⟨.inl (0,0,0,[],()),by simp only [il,pa,aA,cond_false],by rw [List.drop_length];rfl⟩ (fun k hk=>by
   have hb:=(uz xs[k] (h.at hk)).2;rw [Hi xs bj id hk];simp only [il,pa,az hk,au,cond_true,aC,List.getElem?_eq_getElem hk,Option.bind_some,hb,aF (show k<4611686018427387904 by omega)]
   cases decide (xs[k].1=id)
   ·exact .inr ⟨rfl,rfl⟩
   cases decide (xs[k].2.1=bj)
   ·exact .inr ⟨rfl,rfl⟩
   cases tv xs[k]
   ·exact .inr ⟨rfl,rfl⟩
   ·exact .inl ⟨_,rfl,rfl⟩) 0 (Nat.zero_le _)
 unfold jk;have hl:aG il (id,bj,bl,(0:Int),(0:Int),(0:Int),[],xs,((xs.length:Nat):Int),(0:Int),())=_:=hl;rw [hl,List.drop_zero]
 cases jo xs bj id<;>rfl
noncomputable def iE (xs:List gj) (c id:Int) (gW:gj) (out:List (Int×Unit)) (d:Int):List (Int×Unit):=
 match jo xs c d with
 |none=>out
 |some b=>if (d=id∨(b.2.2.1=gW.2.2.1∧0<b.2.2.1))∧(d,())∉out then out++[(d,())] else out
theorem Fq (xs:List gj) (c id:Int) (gW:gj) (out:List (Int×Unit)) (d:Int):(iE xs c id gW out d).length≤out.length+1:=by
 unfold iE
 split
 ·omega
 ·split
  ·simp
  ·omega
noncomputable def dR (xs:List gj) (c:Int) (ms:List (Int×Unit)) (id:Int):List (Int×Unit):=
 match jo xs c id with
 |none=>[]
 |some gW=>ms.foldl (fun out m=>iE xs c id gW out m.1) []
theorem wz (xs:List (Int×Unit)) (d:Int) (h:xs.length≤1048576):dV xs d=some (decide ((d,())∈xs),()):=by
 have hl:=pP (round:=fN) (n:=xs.length) (fun k=>(xs,d,((k:Nat):Int),())) (fun k=>some (if (d,())∈xs.drop k then .inr (true,()) else .inl ()))
  ⟨.inl (),by simp only [fN,mM,aA,cond_false],by rw [List.drop_length];rfl⟩ (fun k hk=>by
   rw [List.drop_eq_getElem_cons hk];simp only [fN,mM,az hk,au,cond_true,aC,List.getElem?_eq_getElem hk,Option.bind_some,aF (show k<4611686018427387904 by omega)]
   by_cases e:xs[k].1=d
   ·rw [ak e];exact .inl ⟨_,rfl,by rw [if_pos (List.mem_cons.2 (.inl (by rw [←e])))]⟩
   ·rw [aq e];refine .inr ⟨rfl,?_⟩;have:((d,())∈xs[k]::xs.drop (k+1))↔((d,())∈xs.drop (k+1)):=by
     rw [List.mem_cons];exact ⟨fun h=>h.resolve_left (fun q=>e (by rw [←q])),.inr⟩
    by_cases q:(d,())∈xs.drop (k+1)
    ·rw [if_pos q,if_pos (this.2 q)]
    ·rw [if_neg q,if_neg (fun z=>q (this.1 z))]) 0 (Nat.zero_le _)
 unfold dV;have hl:aG fN (xs,d,(0:Int),())=_:=hl;rw [hl,List.drop_zero]
 by_cases q:(d,())∈xs
 ·rw [if_pos q,ak q];rfl
 ·rw [if_neg q,aq q];rfl
theorem Fs (xs:List (Int×Unit)) (d:Int) (h:xs.length≤1048576):cI xs d=some (decide ((d,())∈xs),()):=by
 obtain ⟨b,h1,h2⟩:=pF d xs h;rw [wz xs d h] at h1;injection h1 with h1;injection h1 with h1 _;rw [h2,h1]
theorem qZ {α β:Type} (f:β→α→β) (b:β) (xs:List α) {k:Nat} (hk:k<xs.length):(xs.take (k+1)).foldl f b=f ((xs.take k).foldl f b) xs[k]:=by
 rw [List.take_succ_eq_append_getElem hk,List.foldl_append];rfl
theorem uB (xs:List gj) (c id:Int) (gW:gj) (ms:List (Int×Unit)) (out:List (Int×Unit)):(ms.foldl (fun out m=>iE xs c id gW out m.1) out).length≤out.length+ms.length:=by
 induction ms generalizing out with
 |nil=>simp
 |cons m ms ih=>
  rw [List.foldl_cons,List.length_cons];have h1:=ih (iE xs c id gW out m.1);have h2:=Fq xs c id gW out m.1;omega
theorem pG (bj:Int) (bl:List (Int×Unit)) (xs:List gj) (id:Int) (h0:bl.length≤1048576) (h:kZ xs) :
  gw bj bl xs id=some (dR xs bj bl id,())∧gz bj bl xs id=some (dR xs bj bl id,())∧(dR xs bj bl id).length≤bl.length:=by
 have Nl:=h.len;unfold gw gz dR;rw [rQ _ _ _ _ h,uA _ _ _ _ h]
 cases hm:jo xs bj id with
 |none=>exact ⟨rfl,rfl,Nat.zero_le _⟩
 |some gW=>
  have hid:=(zA hm).2.1;have hlen:=uB xs bj id gW bl [];rw [List.length_nil,Nat.zero_add] at hlen;have hk8:∀k,k<bl.length→Nat.ble ((((bl.take k).foldl (fun out m=>iE xs bj id gW out m.1) []).length+1)*8) lim=true:=fun k hk=>by
   have:=uB xs bj id gW (bl.take k) [];rw [List.length_nil,Nat.zero_add,List.length_take] at this;exact bh (by unfold lim;omega)
  have zR:∀k,k<bl.length→((bl.take k).foldl (fun out m=>iE xs bj id gW out m.1) []).length≤1048576:=fun k hk=>by
   have:=uB xs bj id gW (bl.take k) [];rw [List.length_nil,Nat.zero_add,List.length_take] at this;omega
  have l1:=bT (round:=dO) (e:=.inl (bl.foldl (fun out m=>iE xs bj id gW out m.1) [],())) bl.length (fun k=>(xs,id,bj,bl,(bl.take k).foldl (fun out m=>iE xs bj id gW out m.1) [],gW.1,gW.2.1,gW.2.2.1,gW.2.2.2.1,((k:Nat):Int),())) (by
   simp only [dO,fY,aA,cond_false,List.take_length]) (fun k hk=>by
   rw [qZ _ _ _ hk];have e8:=hk8 k hk;have ei:=zR k hk;generalize (bl.take k).foldl (fun out m=>iE xs bj id gW out m.1) []=out at e8 ei ⊢;simp only [dO,fY,az hk,au,cond_true,aC,List.getElem?_eq_getElem hk,Option.bind_some,rQ _ _ _ _ h,aF (show k<4611686018427387904 by omega)];unfold iE
   cases hb:jo xs bj bl[k].1 with
   |none=>rfl
   |some b=>
    have hf:=(zA hb).2.1;simp only [rP,hf,wz _ _ ei,Option.bind_some,cond_true,e8]
    by_cases q1:bl[k].1=id
    ·rw [ak q1]
     by_cases q3:(bl[k].1,())∈out
     ·rw [ak q3,if_neg (fun z=>z.2 q3)];rfl
     ·rw [aq q3,if_pos ⟨.inl q1,q3⟩];rfl
    rw [aq q1]
    by_cases q2:b.2.2.1=gW.2.2.1
    ·rw [ak q2]
     by_cases q4:0<b.2.2.1
     ·rw [ak q4]
      by_cases q3:(bl[k].1,())∈out
      ·rw [ak q3,if_neg (fun z=>z.2 q3)];rfl
      ·rw [aq q3,if_pos ⟨.inr ⟨q2,q4⟩,q3⟩];rfl
     ·rw [aq q4,if_neg (fun z=>z.1.elim q1 (fun w=>q4 w.2))];rfl
    ·rw [aq q2,if_neg (fun z=>z.1.elim q1 (fun w=>q2 w.1))];rfl)
  have l2:=bT (round:=eF) (e:=.inl (bl.foldl (fun out m=>iE xs bj id gW out m.1) [],())) bl.length (fun k=>(xs,id,bj,bl,gW.1,gW.2.1,gW.2.2.1,gW.2.2.2.1,(bl.take k).foldl (fun out m=>iE xs bj id gW out m.1) [],bl,((bl.length:Nat):Int),((k:Nat):Int),())) (by
   simp only [eF,lI,aA,cond_false,List.take_length]) (fun k hk=>by
   rw [qZ _ _ _ hk];have e8:=hk8 k hk;have ei:=zR k hk;generalize (bl.take k).foldl (fun out m=>iE xs bj id gW out m.1) []=out at e8 ei ⊢;simp only [eF,lI,az hk,au,cond_true,aC,List.getElem?_eq_getElem hk,Option.bind_some,uA _ _ _ _ h,aF (show k<4611686018427387904 by omega)];unfold iE
   cases hb:jo xs bj bl[k].1 with
   |none=>rfl
   |some b=>
    simp only [rP,Fs _ _ ei,Option.bind_some,cond_true,e8]
    by_cases q3:(bl[k].1,())∈out
    ·rw [ak q3,if_neg (fun z=>z.2 q3)];rfl
    rw [aq q3]
    by_cases q1:bl[k].1=id
    ·rw [ak q1,if_pos ⟨.inl q1,q3⟩];rfl
    rw [aq q1]
    by_cases q4:0<gW.2.2.1
    ·rw [ak q4]
     by_cases q2:b.2.2.1=gW.2.2.1
     ·rw [Uq q2,if_pos ⟨.inr ⟨q2,by omega⟩,q3⟩];rfl
     ·rw [Ur q2,if_neg (fun z=>z.1.elim q1 (fun w=>q2 w.1))];rfl
    ·rw [aq q4,if_neg (fun z=>z.1.elim q1 (fun w=>q4 (by omega)))];rfl)
  have l1:aG dO (xs,id,bj,bl,[],gW.1,gW.2.1,gW.2.2.1,gW.2.2.2.1,(0:Int),())=_:=l1;have l2:aG eF (xs,id,bj,bl,gW.1,gW.2.1,gW.2.2.1,gW.2.2.2.1,[],bl,((bl.length:Nat):Int),(0:Int),())=_:=l2;simp only [rP,Option.bind_some,Bool.not_true,cond_false,l1,l2];exact ⟨rfl,rfl,hlen⟩
end Go.TM
set_option linter.unusedSimpArgs false
set_option linter.unusedVariables false
namespace Go.TM
open Go
def yG (l:List (Int×Unit)) (n:Nat):Prop:=∀j (h:j<l.length),j<n→(decide (1≤l[j].1)&&decide (l[j].1≤2))=true
def oh (l:List (ByteArray×Unit)) (n:Nat):Prop:=∀j (h:j<l.length),j<n→ByteArray.size l[j].1≤60
def Pd (lv:List (Int×Unit)) (tx:List (ByteArray×Unit)):Sum (List (Int×Unit)×List (ByteArray×Unit)×Unit) (Bool×Unit)→Prop
 |.inl y=>y=(lv,tx,())∧yG lv (min lv.length tx.length)∧oh tx (min lv.length tx.length)
 |.inr b=>b.1=false∧¬(yG lv (min lv.length tx.length)∧oh tx (min lv.length tx.length))
theorem xC (lv:List (Int×Unit)) (tx:List (ByteArray×Unit)) (h1:lv.length≤1048576) (h2:tx.length≤1048576):∃b,px lv tx=some (b,())∧(b=true↔tx.length≤20∧lv.length=tx.length∧yG lv lv.length∧oh tx tx.length):=by
 obtain ⟨e,he,hq⟩:=fV (round:=ie) (x:=(lv,tx,((0:Nat):Int),())) (min lv.length tx.length) (fun k x=>x=(lv,tx,((k:Nat):Int),())∧yG lv k∧oh tx k) (Pd lv tx) (by
   rintro x ⟨rfl,g1,g2⟩
   refine ⟨.inl (lv,tx,()),?_,rfl,g1,g2⟩
   by_cases hb:min lv.length tx.length<tx.length
   ·have e:min lv.length tx.length=lv.length:=by omega
    simp only [ie,lS,az hb,cond_true];rw [e,aA];rfl
   ·have e:min lv.length tx.length=tx.length:=by omega
    simp only [ie,lS];rw [e,aA];rfl) (by
   rintro k x hk ⟨rfl,g1,g2⟩
   have hl:k<lv.length:=by omega
   have ht:k<tx.length:=by omega
   simp only [ie,lS,az hl,az ht,au,cond_true,aC,List.getElem?_eq_getElem hl,List.getElem?_eq_getElem ht,Option.bind_some,oJ,aF (show k<4611686018427387904 by omega)]
   cases hlv:(decide (1≤lv[k].1)&&decide (lv[k].1≤2))
   ·refine .inl ⟨.inr (false,()),rfl,rfl,fun hn => ?_⟩;have:=hn.1 k hl (by omega);rw [hlv] at this
    cases this
   ·by_cases hs:(60:Int)<((ByteArray.size tx[k].1:Nat):Int)
    ·rw [ak hs];refine .inl ⟨.inr (false,()),rfl,rfl,fun hn => ?_⟩;have:=hn.2 k ht (by omega);omega
    ·rw [aq hs];refine .inr ⟨_,rfl,rfl,fun j hj zk => ?_,fun j hj zk => ?_⟩
     ·by_cases e:j<k
      ·exact g1 j hj e
      ·have:j=k:=by omega
       subst this;exact hlv
     ·by_cases e:j<k
      ·exact g2 j hj e
      ·have:j=k:=by omega
       subst this;omega) ⟨rfl,fun j _ h=>by omega,fun j _ h=>by omega⟩
 unfold px;rw [show (0:Int)=((0:Nat):Int) from rfl,he]
 cases e with
 |inr e=>
  obtain ⟨q1,q2⟩:=hq;refine ⟨false,by rw [←q1];rfl,⟨(fun h=>by cases h),fun ⟨w1,w2,w3,w4⟩ => ?_⟩⟩;exact absurd ⟨fun j hj hm=>w3 j hj hj,fun j hj hm=>w4 j hj hj⟩ q2
 |inl e=>
  obtain ⟨q1,q2,q3⟩:=hq;subst q1;simp only [iW]
  by_cases w1:((List.length tx:Nat):Int)≤20
  ·rw [ak w1];refine ⟨_,rfl,?_⟩;rw [decide_eq_true_eq]
   constructor
   ·intro w2;have w2:lv.length=tx.length:=by omega
    exact ⟨by omega,w2,fun j hj _=>q2 j hj (by omega),fun j hj _=>q3 j hj (by omega)⟩
   ·rintro ⟨_,w2,_⟩
    rw [w2]
  ·rw [aq w1];exact ⟨false,rfl,⟨(fun h=>by cases h),fun ⟨w2,_⟩=>by omega⟩⟩
theorem I8 (tx:List (ByteArray×Unit)) (h2:tx.length≤1048576):∃b,pz tx=some (b,())∧(b=true↔oh tx tx.length):=by
 obtain ⟨e,he,hq⟩:=fV (round:=jH) (x:=(tx,((List.length tx:Nat):Int),((0:Nat):Int),())) tx.length (fun k x=>x=(tx,((List.length tx:Nat):Int),((k:Nat):Int),())∧oh tx k) (fun e=>(e=.inl ()∧oh tx tx.length)∨(e=.inr (false,())∧¬oh tx tx.length)) (by
   rintro x ⟨rfl,g2⟩
   exact ⟨.inl (),by simp only [jH,oZ,aA,cond_false],.inl ⟨rfl,g2⟩⟩) (by
   rintro k x hk ⟨rfl,g2⟩
   simp only [jH,oZ,az hk,au,cond_true,aC,List.getElem?_eq_getElem hk,Option.bind_some,aF (show k<4611686018427387904 by omega)]
   by_cases hs:(60:Int)<((ByteArray.size tx[k].1:Nat):Int)
   ·rw [ak hs];refine .inl ⟨.inr (false,()),rfl,.inr ⟨rfl,fun hn => ?_⟩⟩;have:=hn k hk hk;omega
   ·rw [aq hs];refine .inr ⟨_,rfl,rfl,fun j hj zk => ?_⟩
    by_cases e:j<k
    ·exact g2 j hj e
    ·have:j=k:=by omega
     subst this;omega) ⟨rfl,fun j _ h=>by omega⟩
 unfold pz;rw [show (0:Int)=((0:Nat):Int) from rfl,he];rcases hq with ⟨rfl,q⟩ | ⟨rfl,q⟩
 ·exact ⟨true,rfl,⟨fun _=>q,fun _=>rfl⟩⟩
 ·exact ⟨false,rfl,⟨(fun h=>by cases h),fun h=>absurd h q⟩⟩
theorem uC (c0 c1 c2 c3 c4:Int) (xs:List (Int×Unit)):∃b,eN c0 c1 c2 c3 c4 xs=some (b,())∧cU c0 c1 c2 c3 c4 xs=some (b,()):=by
 unfold eN nW cU
 cases decide (c0=0)
 ·exact ⟨_,rfl,rfl⟩
 cases decide (c1=0)
 ·exact ⟨_,rfl,rfl⟩
 cases decide (c2=0)
 ·exact ⟨_,rfl,rfl⟩
 cases decide (c3=0)
 ·exact ⟨_,rfl,rfl⟩
 cases decide (c4=0)
 ·exact ⟨_,rfl,rfl⟩
 cases xs with
 |nil=>
  have hl:=bT (round:=gS) (e:=.inl ()) 0 (fun k=>(([]:List (Int×Unit)),([]:List (Int×Unit)),((k:Nat):Int),())) (by
   simp only [gS,qy,List.length_nil,aA,cond_false]) (fun k hk=>by omega)
  have hl:aG gS (([]:List (Int×Unit)),([]:List (Int×Unit)),(0:Int),())=_:=hl;refine ⟨true,?_,rfl⟩;simp only [cond_true,lR,List.length_nil,decide_true,Bool.not_true,cond_false,hl,iW,Option.bind_some]
 |cons x xs=>
  have e:decide (((List.length (x::xs):Nat):Int)=(0:Int))=false:=aq (by rw [List.length_cons];omega);have e2:decide (((List.length (x::xs):Nat):Int)=((List.length ([]:List (Int×Unit)):Nat):Int))=false:=e;refine ⟨false,?_,?_⟩
  ·simp only [cond_true,lR,e2,Bool.not_false,Option.bind_some]
  ·simp only [cond_true,e]
abbrev R0:Type:=Int×Int×(List (Int×Unit))×bM×(List (Int×Unit))×(List (ByteArray×Unit))×Int×Int×Int×Int×Int×Int×Int×Int×Int×(List (Int×Unit))×Unit
def Ut (m:R0) (lv:List (Int×Unit)):Sum R0 (Bool×Unit)→Prop
 |.inl y=>y=m∧yG lv lv.length
 |.inr b=>b.1=false∧¬yG lv lv.length
theorem Am (ki:Int) (jQ:Int) (gn:List (Int×Unit)) (gT:List (Int×Int×Int×ByteArray×Unit)) (fo:List (Int×Unit)) (ic:List (ByteArray×Unit)) (lx:Int) (ly:Int) (lA:Int) (lB:Int) (fv:Int) (fw:Int) (fx:Int) (fy:Int) (fA:Int) (dX:List (Int×Unit))
  (h0:(List.length gn+wl dk gn)+(List.length gT+wl bJ gT)+(List.length fo+wl dk fo)+(List.length ic+wl sO ic)+(List.length dX+wl dk dX)≤1048576):∃o0,hJ ki jQ gn gT fo ic lx ly lA lB fv fw fx fy fA dX=some (o0,())∧lH ki jQ gn gT fo ic lx ly lA lB fv fw fx fy fA dX=some (o0,()):=by
 obtain ⟨b1,r1,r2,_⟩:=wy jQ gn (by omega);obtain ⟨b2,c1,c2⟩:=pF ki gn (by omega);obtain ⟨b3,i1,i2⟩:=xB gT (by omega);obtain ⟨b4,t1,t2⟩:=xC fo ic (by omega) (by omega);obtain ⟨b5,s1,s2⟩:=I8 ic (by omega);obtain ⟨n,a1,a2,_⟩:=Cw gT (by omega);obtain ⟨b6,z1,z2⟩:=uC fv fw fx fy fA dX;obtain ⟨b7,k1,k2,_⟩:=xA fv fw fx fy fA dX (by omega);obtain ⟨e,he,hq⟩:=fV (round:=jJ) (x:=(ki,jQ,gn,gT,fo,ic,lx,ly,lA,lB,fv,fw,fx,fy,fA,dX,fo,((List.length fo:Nat):Int),((0:Nat):Int),())) fo.length
  (fun k x=>x=(ki,jQ,gn,gT,fo,ic,lx,ly,lA,lB,fv,fw,fx,fy,fA,dX,fo,((List.length fo:Nat):Int),((k:Nat):Int),())∧yG fo k)
  (Ut (ki,jQ,gn,gT,fo,ic,lx,ly,lA,lB,fv,fw,fx,fy,fA,dX,()) fo) (by
   rintro x ⟨rfl,g⟩
   exact ⟨.inl _,by simp only [jJ,rL,aA,cond_false],rfl,g⟩) (by
   rintro k x hk ⟨rfl,g⟩
   simp only [jJ,rL,az hk,au,cond_true,aC,List.getElem?_eq_getElem hk,Option.bind_some,Cv,aF (show k<4611686018427387904 by omega)]
   cases hlv:(decide (1≤fo[k].1)&&decide (fo[k].1≤2))
   ·refine .inl ⟨.inr (false,()),rfl,rfl,fun hn => ?_⟩;have:=hn k hk hk;rw [hlv] at this
    cases this
   ·refine .inr ⟨_,rfl,rfl,fun j hj zk => ?_⟩
    by_cases e:j<k
    ·exact g j hj e
    ·have:j=k:=by omega
     subst this;exact hlv) ⟨rfl,fun j _ h=>by omega⟩
 have he:aG jJ (ki,jQ,gn,gT,fo,ic,lx,ly,lA,lB,fv,fw,fx,fy,fA,dX,fo,((List.length fo:Nat):Int),(0:Int),())=some e:=he;unfold hJ lH;simp only [r1,r2,c1,c2,i1,i2,t1,s1,Option.bind_some,he]
 cases b1
 ·cases b2
  ·exact ⟨_,rfl,rfl⟩
  ·exact ⟨_,rfl,rfl⟩
 cases b2
 ·exact ⟨_,rfl,rfl⟩
 cases b3
 ·exact ⟨_,rfl,rfl⟩
 simp only [Bool.not_true,cond_false]
 by_cases w1:(20:Int)<((List.length ic:Nat):Int)
 ·have:b4=false:=by
   cases b4
   ·rfl
   ·have:=(t2.1 rfl).1;omega
  subst this;rw [ak w1];exact ⟨_,rfl,rfl⟩
 rw [aq w1]
 cases b5
 ·have:b4=false:=by
   cases b4
   ·rfl
   ·have:=s2.2 (t2.1 rfl).2.2.2;cases this
  subst this;exact ⟨_,rfl,rfl⟩
 by_cases w2:((List.length fo:Nat):Int)=((List.length ic:Nat):Int)
 case neg=>
  have:b4=false:=by
   cases b4
   ·rfl
   ·have:=(t2.1 rfl).2.1;omega
  subst this;rw [aq w2];exact ⟨_,rfl,rfl⟩
 rw [ak w2]
 cases e with
 |inr e=>
  obtain ⟨q1,q2⟩:=hq;have:b4=false:=by
   cases b4
   ·rfl
   ·exact absurd (t2.1 rfl).2.2.1 q2
  subst this;refine ⟨false,rfl,?_⟩;show some (e.1,())=_;rw [q1]
 |inl e=>
  obtain ⟨q1,q2⟩:=hq;subst q1;have:b4=true:=t2.2 ⟨by omega,by omega,q2,s2.1 rfl⟩;subst this;simp only [Bool.not_true,cond_false,iW,a1,a2,z1,z2,k1,k2,oJ,sP,Option.bind_some]
  cases (decide (0≤lx)&&decide (lx≤1000000000))
  ·exact ⟨_,rfl,rfl⟩
  cases (decide (0≤ly)&&decide (ly≤60))
  ·exact ⟨_,rfl,rfl⟩
  cases (decide (0≤lA)&&decide (lA≤((n:Nat):Int)))
  ·exact ⟨_,rfl,rfl⟩
  cases (decide (0≤lB)&&decide (lB≤((n:Nat):Int)))
  ·exact ⟨_,rfl,rfl⟩
  cases b6
  ·exact ⟨_,rfl,rfl⟩
  ·exact ⟨_,rfl,rfl⟩
end Go.TM
set_option linter.unusedSimpArgs false
set_option linter.unusedVariables false
namespace Go.TM
open Go
def vW (r:jN):Prop:=(1≤r.1∧r.1≤60)∧(1≤r.2.1∧r.2.1≤5)∧(1≤r.2.2.1∧r.2.2.1≤2)∧ByteArray.size r.2.2.2.1≤60
def gk (xs:bM) (n:Nat):Prop:=∀k (h:k<xs.length),k<n→vW xs[k]∧∀h0:0<k,xs[k-1].1<xs[k].1
theorem Hj (a b c:Int) (s:ByteArray):∃x,iZ a b c s=some (x,())∧lG a b c s=some (x,())∧(x=true↔vW (a,b,c,s,())):=by
 have hi:∀ {p q r:Prop} [Decidable p] [Decidable q],(decide p&&decide q)=false→¬((p∧q)∧r):=by
  intro p q r _ _ h ⟨h1,_⟩;rw [decide_eq_true h1.1,decide_eq_true h1.2] at h
  cases h
 unfold iZ lG vW;simp only [oJ,sP,tu,Cv,Option.bind_some]
 cases h1:(decide (1≤a)&&decide (a≤60))
 ·exact ⟨false,rfl,rfl,⟨fun h=>(by cases h),fun h=>absurd h (hi h1)⟩⟩
 rw [Bool.and_eq_true,decide_eq_true_eq,decide_eq_true_eq] at h1
 cases h2:(decide (1≤b)&&decide (b≤5))
 ·exact ⟨false,rfl,rfl,⟨fun h=>(by cases h),fun h=>absurd h.2 (hi h2)⟩⟩
 rw [Bool.and_eq_true,decide_eq_true_eq,decide_eq_true_eq] at h2
 cases h3:(decide (1≤c)&&decide (c≤2))
 ·exact ⟨false,rfl,rfl,⟨fun h=>(by cases h),fun h=>absurd h.2.2 (hi h3)⟩⟩
 rw [Bool.and_eq_true,decide_eq_true_eq,decide_eq_true_eq] at h3;refine ⟨_,rfl,rfl,?_⟩;rw [decide_eq_true_eq];exact ⟨fun h=>⟨h1,h2,h3,by omega⟩,fun h=>by have:=h.2.2.2;omega⟩
theorem D8 (xs:bM) (h:xs.length≤1048576):∃b,eU xs=some (b,())∧jc xs=some (b,())∧(b=true↔gk xs xs.length):=by
 obtain ⟨b,h1,h2⟩:=xB xs h;refine ⟨b,h1,h2,?_⟩;obtain ⟨e,he,hq⟩:=fV (round:=eg) (x:=(xs,((0:Nat):Int),())) xs.length (fun k x=>x=(xs,((k:Nat):Int),())∧gk xs k) (fun e=>(e=.inl ()∧gk xs xs.length)∨(e=.inr (false,())∧¬gk xs xs.length)) (by
   rintro x ⟨rfl,g⟩
   exact ⟨.inl (),by simp only [eg,kj,aA,cond_false],.inl ⟨rfl,g⟩⟩) (by
   rintro k x hk ⟨rfl,g⟩
   obtain ⟨b,r1,_,r3⟩:=Hj xs[k].1 xs[k].2.1 xs[k].2.2.1 xs[k].2.2.2.1;have r3:b=true↔vW xs[k]:=r3;simp only [eg,kj,az hk,au,cond_true,aC,List.getElem?_eq_getElem hk,Option.bind_some,r1,aF (show k<4611686018427387904 by omega)];have more:vW xs[k]→(∀h0:0<k,xs[k-1].1<xs[k].1)→gk xs (k+1):=fun q1 q2 j hj zk=>by
    by_cases e:j<k
    ·exact g j hj e
    ·have:j=k:=by omega
     subst this;exact ⟨q1,q2⟩
   cases b
   ·exact .inl ⟨.inr (false,()),rfl,.inr ⟨rfl,fun hn=>absurd (r3.2 (hn k hk hk).1) (by simp)⟩⟩
   ·have q1:=r3.1 rfl
    by_cases h0:0<k
    ·have hp:k-1<xs.length:=by omega
     rw [qY h0 (by omega)];simp only [ak (show (0:Int)<((k:Nat):Int) by omega),Bool.not_true,cond_false,cond_true,au,aC,List.getElem?_eq_getElem hp,Option.bind_some]
     by_cases hs:xs[k].1≤xs[k-1].1
     ·rw [ak hs];refine .inl ⟨.inr (false,()),rfl,.inr ⟨rfl,fun hn => ?_⟩⟩;have:=(hn k hk hk).2 h0;omega
     ·rw [aq hs];exact .inr ⟨_,rfl,rfl,more q1 (fun _=>by omega)⟩
    ·have:k=0:=by omega
     subst this;simp only [aq (show ¬(0:Int)<((0:Nat):Int) by omega),Bool.not_true,cond_false];exact .inr ⟨_,rfl,rfl,more q1 (fun h=>absurd h (by omega))⟩) ⟨rfl,fun j _ h=>by omega⟩
 have he:aG eg (xs,(0:Int),())=some e:=he;unfold eU at h1;rw [he] at h1;rcases hq with ⟨rfl,g⟩ | ⟨rfl,g⟩
 ·injection h1 with h1;injection h1 with h1 _;exact ⟨fun _=>g,fun _=>h1.symm⟩
 ·injection h1 with h1;injection h1 with h1 _;subst h1;exact ⟨fun h=>(by cases h),fun h=>absurd h g⟩
theorem Pe {α:Type} (f:α→Nat) (c:Nat):(xs:List α)→(∀x∈xs,f x≤c)→wl f xs≤c*xs.length
 | [],_=>Nat.zero_le _
 |x::xs,h=>by
  rw [mX,List.length_cons,Nat.mul_succ];have:=Pe f c xs (fun y hy=>h y (List.mem_cons_of_mem _ hy));have:=h x List.mem_cons_self;omega
theorem D9 (xs:bM) (h:gk xs xs.length):∀k (hk:k<xs.length),((k+1:Nat):Int)≤xs[k].1
 |0,hk=>by have:=(h 0 hk hk).1.1.1;omega
 |k+1,hk=>by
  have h1:=D9 xs h k (by omega);have h2:=(h (k+1) hk hk).2 (by omega);have h2:xs[k].1<xs[k+1].1:=h2;omega
theorem pV (xs:bM) (h:gk xs xs.length):xs.length≤60∧wl bJ xs≤3600:=by
 have h1:xs.length≤60:=by
  by_cases h0:0<xs.length
  ·have:=D9 xs h (xs.length-1) (by omega);have:=(h (xs.length-1) (by omega) (by omega)).1.1.2;omega
  ·omega
 refine ⟨h1,Nat.le_trans (Pe bJ 60 xs fun x hx => ?_) (by omega)⟩;obtain ⟨k,hk,rfl⟩:=List.mem_iff_getElem.1 hx;exact (h k hk hk).1.2.2.2
theorem An (xs:List (ByteArray×Unit)) (h:oh xs xs.length):wl sO xs≤60*xs.length:=by
 refine Pe sO 60 xs fun x hx => ?_
 obtain ⟨k,hk,rfl⟩:=List.mem_iff_getElem.1 hx;exact h k hk hk
structure Pf (c0 c1:Int) (c2:List (Int×Unit)) (c3:bM) (c4:List (Int×Unit)) (c5:List (ByteArray×Unit)) (c6 c7 c8 c9:Int) (c15:List (Int×Unit)):Prop where
 ring:1≤c2.length∧c2.length≤5
 items:gk c3 c3.length
 texts:c5.length≤20∧c4.length=c5.length
 lev:yG c4 c4.length
 short:oh c5 c5.length
 round:0≤c6∧c6≤1000000000
 seen:0≤c7∧c7≤60
 aru:∃n:Nat,lD c3=some (((n:Nat):Int),())∧ni c3=some (((n:Nat):Int),())∧Kr c3 n∧(0≤c8∧c8≤((n:Nat):Int))∧0≤c9∧c9≤((n:Nat):Int)
 aa7:c15.length≤20
theorem Ml {c0 c1 c2 c3 c4:Int} {xs:List (Int×Unit)} (h:cU c0 c1 c2 c3 c4 xs=some (true,())):xs.length=0:=by
 unfold cU at h
 by_cases h0:((List.length xs:Nat):Int)=0
 ·omega
 ·exfalso
  rw [aq h0] at h
  revert h
  cases decide (c0=(0:Int))<;>cases decide (c1=(0:Int))<;>cases decide (c2=(0:Int))<;>cases decide (c3=(0:Int))<;>cases decide (c4=(0:Int))<;>intro h<;>cases h
theorem jO {p q:Prop} [Decidable p] [Decidable q] (h:(decide p&&decide q)=true):p∧q:=by
 rw [Bool.and_eq_true,decide_eq_true_eq,decide_eq_true_eq] at h;exact h
theorem Pg (ki:Int) (jQ:Int) (gn:List (Int×Unit)) (gT:bM) (fo:List (Int×Unit)) (ic:List (ByteArray×Unit)) (lx:Int) (ly:Int) (lA:Int) (lB:Int) (fv:Int) (fw:Int) (fx:Int) (fy:Int) (fA:Int) (dX:List (Int×Unit))
  (h0:(List.length gn+wl dk gn)+(List.length gT+wl bJ gT)+(List.length fo+wl dk fo)+(List.length ic+wl sO ic)+(List.length dX+wl dk dX)≤1048576):∃b,hJ ki jQ gn gT fo ic lx ly lA lB fv fw fx fy fA dX=some (b,())∧lH ki jQ gn gT fo ic lx ly lA lB fv fw fx fy fA dX=some (b,())∧
   (b=true→Pf ki jQ gn gT fo ic lx ly lA lB dX):=by
 obtain ⟨b,k1,k2⟩:=Am ki jQ gn gT fo ic lx ly lA lB fv fw fx fy fA dX h0;refine ⟨b,k1,k2,fun hb => ?_⟩;subst hb;obtain ⟨b1,r1,_,r3⟩:=wy jQ gn (by omega);obtain ⟨b2,c1,_⟩:=pF ki gn (by omega);obtain ⟨b3,i1,_,i3⟩:=D8 gT (by omega);obtain ⟨b4,t1,t2⟩:=xC fo ic (by omega) (by omega);obtain ⟨n,a1,a2,a3⟩:=Cw gT (by omega);obtain ⟨b6,z1,z2⟩:=uC fv fw fx fy fA dX;obtain ⟨b7,w1,_,w3⟩:=xA fv fw fx fy fA dX (by omega);unfold hJ at k1;simp only [r1,c1,i1,t1,a1,z1,w1,oJ,Option.bind_some] at k1
 cases b1
 ·cases k1
 cases b2
 ·cases k1
 cases b3
 ·cases k1
 cases b4
 ·cases k1
 simp only [Bool.not_true,cond_false] at k1
 cases e5:(decide ((0:Int)≤lx)&&decide (lx≤1000000000))
 ·rw [e5] at k1;cases k1
 cases e6:(decide ((0:Int)≤ly)&&decide (ly≤60))
 ·rw [e5,e6] at k1;cases k1
 cases e8:(decide ((0:Int)≤lA)&&decide (lA≤((n:Nat):Int)))
 ·rw [e5,e6,e8] at k1;cases k1
 cases e9:(decide ((0:Int)≤lB)&&decide (lB≤((n:Nat):Int)))
 ·rw [e5,e6,e8,e9] at k1;cases k1
 rw [e5,e6,e8,e9] at k1;obtain ⟨t3,t4,t5,t6⟩:=t2.1 rfl;refine ⟨r3 rfl,i3.1 rfl,⟨t3,t4⟩,t5,t6,jO e5,jO e6,⟨n,a1,a2,a3,jO e8,jO e9⟩,?_⟩
 cases b6
 ·cases b7
  ·cases k1
  ·exact (w3 rfl).2.2.2.2.1
 ·have:=Ml z2;omega
theorem Pf.small {c0 c1:Int} {c2:List (Int×Unit)} {c3:bM} {c4:List (Int×Unit)} {c5:List (ByteArray×Unit)} {c6 c7 c8 c9:Int} {c15:List (Int×Unit)} (h:Pf c0 c1 c2 c3 c4 c5 c6 c7 c8 c9 c15) :
  (List.length c2+wl dk c2)+(List.length c3+wl bJ c3)+(List.length c4+wl dk c4)+(List.length c5+wl sO c5)+(List.length c15+wl dk c15)≤5000:=by
 have h1:=pV c3 h.items;have h2:=An c5 h.short;have h3:=h.texts;have h4:=h.ring;have h5:=h.aa7;rw [qF dk (fun _=>rfl),qF dk (fun _=>rfl),qF dk (fun _=>rfl)];omega
theorem vX (xs:bM) (h:xs.length≤1048576):cV xs=some (xs,()):=by
 unfold cV;rw [bh (show (0+xs.length)*40≤lim by unfold lim;omega)];rfl
theorem Ft (xs:List (ByteArray×Unit)) (h:xs.length≤1048576):ju xs=some (xs,()):=by
 unfold ju;rw [bh (show (0+xs.length)*16≤lim by unfold lim;omega)];rfl
theorem Ao (ki:Int) (jQ:Int) (gn:List (Int×Unit)) (gT:bM) (fo:List (Int×Unit)) (ic:List (ByteArray×Unit)) (lx:Int) (ly:Int) (lA:Int) (lB:Int) (fv:Int) (fw:Int) (fx:Int) (fy:Int) (fA:Int) (dX:List (Int×Unit))
  (h0:(List.length gn+wl dk gn)+(List.length gT+wl bJ gT)+(List.length fo+wl dk fo)+(List.length ic+wl sO ic)+(List.length dX+wl dk dX)≤1048576) :
  lT ki jQ gn gT fo ic lx ly lA lB fv fw fx fy fA dX=some (ki,jQ,gn,gT,fo,ic,lx,ly,lA,lB,fv,fw,fx,fy,fA,dX,())∧
  kE ki jQ gn gT fo ic lx ly lA lB fv fw fx fy fA dX=some (ki,jQ,gn,gT,fo,ic,lx,ly,lA,lB,fv,fw,fx,fy,fA,dX,()):=by
 obtain ⟨t1,t2⟩:=Fo fv fw fx fy fA dX (by omega)
 constructor
 ·unfold lT;rw [bh (show (0+gn.length)*8≤lim by unfold lim;omega),bh (show (0+gT.length)*40≤lim by unfold lim;omega),bh (show (0+fo.length)*8≤lim by unfold lim;omega),bh (show (0+ic.length)*16≤lim by unfold lim;omega),t1];rfl
 ·unfold kE bw;rw [nw gn (by omega),vX gT (by omega),nw fo (by omega),Ft ic (by omega),t2];rfl
end Go.TM
set_option linter.unusedSimpArgs false
set_option linter.unusedVariables false
namespace Go.TM
open Go
abbrev gL:Type:=List (Int×Unit)
abbrev Mm:Type:=Int×Int×Int×Int×Int×gL×Unit
abbrev Fu:Type:=Int×Int×gL×bM×gL×(List (ByteArray×Unit))×Int×Int×Int×Int×Int×Int×Int×Int×Int×gL×Unit
abbrev AN:Type:=Int×Int×gL×Int×Int×Int×ByteArray×gL×Unit
abbrev js:Type:=Int×Bool×Int×Int×gL×bM×gL×(List (ByteArray×Unit))×Int×Int×Int×Int×Int×Int×Int×Int×Int×gL×Int×Int×Int×gL×(List gj)×(List AN)×Unit
def Hk (xs:gL) (n:Nat):Prop:=∀k (h:k<xs.length),k<n→(1≤xs[k].1∧xs[k].1≤5)∧∀h0:0<k,xs[k-1].1<xs[k].1
def wX (c:Int) (xs:gL):Prop:=(1≤c∧c≤9)∧(1≤xs.length∧xs.length≤5)∧Hk xs xs.length
theorem Ph (c:Int) (xs:gL) (h:xs.length≤1048576):∃b,dN c xs=some (b,())∧fZ c xs=some (b,())∧(b=true↔wX c xs):=by
 obtain ⟨b,h1,h2,_⟩:=wy c xs h;refine ⟨b,h1,h2,?_⟩;obtain ⟨e,he,hq⟩:=fV (round:=eT) (x:=(c,xs,((0:Nat):Int),())) xs.length (fun k x=>x=(c,xs,((k:Nat):Int),())∧Hk xs k) (fun e=>(e=.inl ()∧Hk xs xs.length)∨(e=.inr (false,())∧¬Hk xs xs.length)) (by
   rintro x ⟨rfl,g⟩
   exact ⟨.inl (),by simp only [eT,lC,aA,cond_false],.inl ⟨rfl,g⟩⟩) (by
   rintro k x hk ⟨rfl,g⟩
   simp only [eT,lC,az hk,au,cond_true,aC,List.getElem?_eq_getElem hk,Option.bind_some,oJ,aF (show k<4611686018427387904 by omega)];have more:(1≤xs[k].1∧xs[k].1≤5)→(∀h0:0<k,xs[k-1].1<xs[k].1)→Hk xs (k+1):=fun q1 q2 j hj zk=>by
    by_cases e:j<k
    ·exact g j hj e
    ·have:j=k:=by omega
     subst this;exact ⟨q1,q2⟩
   cases hb:(decide (1≤xs[k].1)&&decide (xs[k].1≤5))
   ·exact .inl ⟨.inr (false,()),rfl,.inr ⟨rfl,fun hn=>by
     have:=(hn k hk hk).1;rw [ak this.1,ak this.2] at hb
     cases hb⟩⟩
   ·have q1:=jO hb
    by_cases h0:0<k
    ·have hp:k-1<xs.length:=by omega
     rw [qY h0 (by omega)];simp only [ak (show (0:Int)<((k:Nat):Int) by omega),Bool.not_true,cond_false,cond_true,au,aC,List.getElem?_eq_getElem hp,Option.bind_some]
     by_cases hs:xs[k].1≤xs[k-1].1
     ·rw [ak hs];refine .inl ⟨.inr (false,()),rfl,.inr ⟨rfl,fun hn => ?_⟩⟩;have:=(hn k hk hk).2 h0;omega
     ·rw [aq hs];exact .inr ⟨_,rfl,rfl,more q1 (fun _=>by omega)⟩
    ·have:k=0:=by omega
     subst this;simp only [aq (show ¬(0:Int)<((0:Nat):Int) by omega),Bool.not_true,cond_false];exact .inr ⟨_,rfl,rfl,more q1 (fun h=>absurd h (by omega))⟩) ⟨rfl,fun j _ h=>by omega⟩
 have he:aG eT (c,xs,(0:Int),())=some e:=he;unfold dN at h1;simp only [oJ,Option.bind_some,he] at h1;unfold wX
 cases a1:(decide (1≤c)&&decide (c≤9))
 ·rw [a1] at h1;injection h1 with h1;injection h1 with h1 _;subst h1;refine ⟨fun h=>(by cases h),fun h => ?_⟩;rw [ak h.1.1,ak h.1.2] at a1
  cases a1
 cases a2:(decide (1≤((List.length xs:Nat):Int))&&decide (((List.length xs:Nat):Int)≤5))
 ·rw [a1,a2] at h1;injection h1 with h1;injection h1 with h1 _;subst h1;refine ⟨fun h=>(by cases h),fun h => ?_⟩;rw [ak (show (1:Int)≤((List.length xs:Nat):Int) by omega),ak (show ((List.length xs:Nat):Int)≤5 by omega)] at a2
  cases a2
 rw [a1,a2] at h1;have a1:=jO a1;have a2:=jO a2;rcases hq with ⟨rfl,g⟩ | ⟨rfl,g⟩
 ·injection h1 with h1;injection h1 with h1 _;exact ⟨fun _=>⟨a1,by omega,g⟩,fun _=>h1.symm⟩
 ·injection h1 with h1;injection h1 with h1 _;subst h1;exact ⟨fun h=>(by cases h),fun h=>absurd h.2.2 g⟩
noncomputable def tw (c:Int) (xs:gL):Bool:=match dN c xs with | some x=>x.1 | none=>false
theorem wA (c:Int) (xs:gL) (h:xs.length≤1048576):dN c xs=some (tw c xs,())∧fZ c xs=some (tw c xs,())∧(tw c xs=true↔wX c xs):=by
 obtain ⟨b,h1,h2,h3⟩:=Ph c xs h;have:tw c xs=b:=by unfold tw;rw [h1]
 rw [this];exact ⟨h1,h2,h3⟩
noncomputable def pf (xs:bM):Bool:=match eU xs with | some x=>x.1 | none=>false
theorem rR (xs:bM) (h:xs.length≤1048576):eU xs=some (pf xs,())∧jc xs=some (pf xs,())∧(pf xs=true↔gk xs xs.length):=by
 obtain ⟨b,h1,h2,h3⟩:=D8 xs h;have:pf xs=b:=by unfold pf;rw [h1]
 rw [this];exact ⟨h1,h2,h3⟩
noncomputable def Cy (r:jN):Bool:=match iZ r.1 r.2.1 r.2.2.1 r.2.2.2.1 with | some x=>x.1 | none=>false
theorem Ks (r:jN):iZ r.1 r.2.1 r.2.2.1 r.2.2.2.1=some (Cy r,())∧lG r.1 r.2.1 r.2.2.1 r.2.2.2.1=some (Cy r,())∧(Cy r=true↔vW r):=by
 obtain ⟨b,h1,h2,h3⟩:=Hj r.1 r.2.1 r.2.2.1 r.2.2.2.1;have:Cy r=b:=by unfold Cy;rw [h1]
 rw [this];exact ⟨h1,h2,h3⟩
def CA (b:gj):Prop:=(1≤b.1∧b.1≤5)∧(1≤b.2.1∧b.2.1≤9)∧(0≤b.2.2.1∧b.2.2.1≤b.2.1-1)∧gk b.2.2.2.1 b.2.2.2.1.length∧(0<b.2.2.1∨b.2.2.2.1.length=0)
theorem om {p q:Prop} [Decidable p] [Decidable q]:(decide p&&decide q)=true↔p∧q:=by
 rw [Bool.and_eq_true,decide_eq_true_eq,decide_eq_true_eq]
theorem Kt (b:gj) (h:b.2.2.2.1.length≤1048576):tv b=true↔CA b:=by
 obtain ⟨h1,_⟩:=uz b h;obtain ⟨i1,_,i3⟩:=rR b.2.2.2.1 h;unfold hM at h1;simp only [oJ,Option.bind_some,i1] at h1;unfold CA;rw [←i3]
 cases a1:(decide (1≤b.1)&&decide (b.1≤5))
 ·rw [a1] at h1;injection h1 with h1;injection h1 with h1 _;rw [←h1];exact ⟨fun h=>(by cases h),fun h=>by rw [om.2 h.1] at a1;cases a1⟩
 cases a2:(decide (1≤b.2.1)&&decide (b.2.1≤9))
 ·rw [a1,a2] at h1;injection h1 with h1;injection h1 with h1 _;rw [←h1];exact ⟨fun h=>(by cases h),fun h=>by rw [om.2 h.2.1] at a2;cases a2⟩
 have c2:=jO a2;rw [ef (by omega) (by omega)] at h1
 cases a3:(decide (0≤b.2.2.1)&&decide (b.2.2.1≤b.2.1-1))
 ·rw [a1,a2,a3] at h1;injection h1 with h1;injection h1 with h1 _;rw [←h1];exact ⟨fun h=>(by cases h),fun h=>by rw [om.2 h.2.2.1] at a3;cases a3⟩
 cases a4:pf b.2.2.2.1
 ·rw [a1,a2,a3,a4] at h1;injection h1 with h1;injection h1 with h1 _;rw [←h1];exact ⟨fun h=>(by cases h),fun h=>by cases h.2.2.2.1⟩
 rw [a1,a2,a3,a4] at h1
 by_cases a5:0<b.2.2.1
 ·rw [ak a5] at h1;injection h1 with h1;injection h1 with h1 _;rw [←h1];exact ⟨fun _=>⟨jO a1,c2,jO a3,rfl,.inl a5⟩,fun _=>rfl⟩
 ·rw [aq a5] at h1;injection h1 with h1;injection h1 with h1 _;rw [←h1];refine ⟨fun h=>⟨jO a1,c2,jO a3,rfl,.inr ?_⟩,fun h => ?_⟩
  ·have:=of_decide_eq_true h;omega
  ·exact decide_eq_true (by rcases h.2.2.2.2 with q | q<;>omega)
theorem Mn (c0 c1 c2 c3 c4:Int) (xs:gL):∃b,eN c0 c1 c2 c3 c4 xs=some (b,())∧cU c0 c1 c2 c3 c4 xs=some (b,())∧(b=true↔c0=0∧c1=0∧c2=0∧c3=0∧c4=0∧xs=[]):=by
 obtain ⟨b,h1,h2⟩:=uC c0 c1 c2 c3 c4 xs;refine ⟨b,h1,h2,?_⟩;unfold cU at h2;have hl:((List.length xs:Nat):Int)=0↔xs=[]:=by rw [←List.length_eq_zero_iff];omega
 by_cases e0:c0=0
 case neg=>simp [aq e0] at h2;subst h2;simp [e0]
 by_cases e1:c1=0
 case neg=>simp [ak e0,aq e1] at h2;subst h2;simp [e1]
 by_cases e2:c2=0
 case neg=>simp [ak e0,ak e1,aq e2] at h2;subst h2;simp [e2]
 by_cases e3:c3=0
 case neg=>simp [ak e0,ak e1,ak e2,aq e3] at h2;subst h2;simp [e3]
 by_cases e4:c4=0
 case neg=>simp [ak e0,ak e1,ak e2,ak e3,aq e4] at h2;subst h2;simp [e4]
 by_cases e5:((List.length xs:Nat):Int)=0
 ·rw [ak e0,ak e1,ak e2,ak e3,ak e4,ak e5] at h2;injection h2 with h2;injection h2 with h2 _;exact ⟨fun _=>⟨e0,e1,e2,e3,e4,hl.1 e5⟩,fun _=>h2.symm⟩
 ·rw [ak e0,ak e1,ak e2,ak e3,ak e4,aq e5] at h2;injection h2 with h2;injection h2 with h2 _;subst h2;exact ⟨fun h=>(by cases h),fun h=>absurd (hl.2 h.2.2.2.2.2) e5⟩
def Blank (t:Mm):Prop:=t.1=0∧t.2.1=0∧t.2.2.1=0∧t.2.2.2.1=0∧t.2.2.2.2.1=0∧t.q.1=[]
noncomputable def uD (t:Mm):Bool:=match eN t.1 t.2.1 t.2.2.1 t.2.2.2.1 t.2.2.2.2.1 t.q.1 with | some x=>x.1 | none=>false
theorem vY (t:Mm):eN t.1 t.2.1 t.2.2.1 t.2.2.2.1 t.2.2.2.2.1 t.q.1=some (uD t,())∧cU t.1 t.2.1 t.2.2.1 t.2.2.2.1 t.2.2.2.2.1 t.q.1=some (uD t,())∧(uD t=true↔Blank t):=by
 obtain ⟨b,h1,h2,h3⟩:=Mn t.1 t.2.1 t.2.2.1 t.2.2.2.1 t.2.2.2.2.1 t.q.1;have:uD t=b:=by unfold uD;rw [h1]
 rw [this];exact ⟨h1,h2,h3⟩
def Uu (t:Mm):Prop:=aa3 t.1 t.2.1 t.2.2.1 t.2.2.2.1 t.2.2.2.2.1 t.q.1
noncomputable def I9 (t:Mm):Bool:=match gZ t.1 t.2.1 t.2.2.1 t.2.2.2.1 t.2.2.2.2.1 t.q.1 with | some x=>x.1 | none=>false
theorem Pj (t:Mm) (h:t.q.1.length≤1048576):gZ t.1 t.2.1 t.2.2.1 t.2.2.2.1 t.2.2.2.2.1 t.q.1=some (I9 t,())∧lX t.1 t.2.1 t.2.2.1 t.2.2.2.1 t.2.2.2.2.1 t.q.1=some (I9 t,())∧(I9 t=true↔Uu t):=by
 obtain ⟨b,h1,h2,h3⟩:=Mj t.1 t.2.1 t.2.2.1 t.2.2.2.1 t.2.2.2.2.1 t.q.1 h;have:I9 t=b:=by unfold I9;rw [h1]
 rw [this];exact ⟨h1,h2,h3⟩
noncomputable def mg (xs:bM):Nat:=match lD xs with | some x=>x.1.toNat | none=>0
theorem Ja (xs:bM) (h:xs.length≤1048576):lD xs=some (((mg xs:Nat):Int),())∧ni xs=some (((mg xs:Nat):Int),())∧Kr xs (mg xs):=by
 obtain ⟨n,h1,h2,h3⟩:=Cw xs h;have:mg xs=n:=by unfold mg;rw [h1];rfl
 rw [this];exact ⟨h1,h2,h3⟩
structure Mo (m:Fu):Prop where
 ring:wX m.2.1 m.2.2.1
 mem:(m.1,())∈m.2.2.1
 items:gk m.2.2.2.1 m.2.2.2.1.length
 texts:m.q.1.length≤20∧m.2.2.2.2.1.length=m.q.1.length
 lev:yG m.2.2.2.2.1 m.2.2.2.2.1.length
 short:oh m.q.1 m.q.1.length
 round:0≤m.q.2.1∧m.q.2.1≤1000000000
 seen:0≤m.q.2.2.1∧m.q.2.2.1≤60
 line:0≤m.q.2.2.2.1∧m.q.2.2.2.1≤((mg m.2.2.2.1:Nat):Int)
 heard:0≤m.q.2.2.2.2.1∧m.q.2.2.2.2.1≤((mg m.2.2.2.1:Nat):Int)
 last:Blank (m.q.q.1,m.q.q.2.1,m.q.q.2.2.1,m.q.q.2.2.2.1,m.q.q.2.2.2.2.1,m.q.q.q.1,())∨Uu (m.q.q.1,m.q.q.2.1,m.q.q.2.2.1,m.q.q.2.2.2.1,m.q.q.2.2.2.2.1,m.q.q.q.1,())
def zB (m:Fu):Nat:=(List.length m.2.2.1+wl dk m.2.2.1)+(List.length m.2.2.2.1+wl bJ m.2.2.2.1)+(List.length m.2.2.2.2.1+wl dk m.2.2.2.2.1)+(List.length m.q.1+wl sO m.q.1)+(List.length m.q.q.q.1+wl dk m.q.q.q.1)
noncomputable def Hl (m:Fu):Bool:=match hJ m.1 m.2.1 m.2.2.1 m.2.2.2.1 m.2.2.2.2.1 m.q.1 m.q.2.1 m.q.2.2.1 m.q.2.2.2.1 m.q.2.2.2.2.1 m.q.q.1 m.q.q.2.1 m.q.q.2.2.1 m.q.q.2.2.2.1 m.q.q.2.2.2.2.1 m.q.q.q.1 with | some x=>x.1 | none=>false
theorem Pk (m:Fu) (h0:zB m≤1048576):hJ m.1 m.2.1 m.2.2.1 m.2.2.2.1 m.2.2.2.2.1 m.q.1 m.q.2.1 m.q.2.2.1 m.q.2.2.2.1 m.q.2.2.2.2.1 m.q.q.1 m.q.q.2.1 m.q.q.2.2.1 m.q.q.2.2.2.1 m.q.q.2.2.2.2.1 m.q.q.q.1=some (Hl m,())∧lH m.1 m.2.1 m.2.2.1 m.2.2.2.1 m.2.2.2.2.1 m.q.1 m.q.2.1 m.q.2.2.1 m.q.2.2.2.1 m.q.2.2.2.2.1 m.q.q.1 m.q.q.2.1 m.q.q.2.2.1 m.q.q.2.2.2.1 m.q.q.2.2.2.2.1 m.q.q.q.1=some (Hl m,())∧(Hl m=true↔Mo m):=by
 obtain ⟨b,k1,k2⟩:=Am m.1 m.2.1 m.2.2.1 m.2.2.2.1 m.2.2.2.2.1 m.q.1 m.q.2.1 m.q.2.2.1 m.q.2.2.2.1 m.q.2.2.2.2.1 m.q.q.1 m.q.q.2.1 m.q.q.2.2.1 m.q.q.2.2.2.1 m.q.q.2.2.2.2.1 m.q.q.q.1 h0;have hb:Hl m=b:=by unfold Hl;rw [k1]
 rw [hb];refine ⟨k1,k2,?_⟩;unfold zB at h0;obtain ⟨r1,_,r3⟩:=wA m.2.1 m.2.2.1 (by omega);have c1:=wz m.2.2.1 m.1 (by omega);obtain ⟨i1,_,i3⟩:=rR m.2.2.2.1 (by omega);obtain ⟨b4,t1,t2⟩:=xC m.2.2.2.2.1 m.q.1 (by omega) (by omega);obtain ⟨a1,a2,a3⟩:=Ja m.2.2.2.1 (by omega);have z1:eN m.q.q.1 m.q.q.2.1 m.q.q.2.2.1 m.q.q.2.2.2.1 m.q.q.2.2.2.2.1 m.q.q.q.1=some (uD (m.q.q.1,m.q.q.2.1,m.q.q.2.2.1,m.q.q.2.2.2.1,m.q.q.2.2.2.2.1,m.q.q.q.1,()),()):=(vY (m.q.q.1,m.q.q.2.1,m.q.q.2.2.1,m.q.q.2.2.2.1,m.q.q.2.2.2.2.1,m.q.q.q.1,())).1;have z3:=(vY (m.q.q.1,m.q.q.2.1,m.q.q.2.2.1,m.q.q.2.2.2.1,m.q.q.2.2.2.2.1,m.q.q.q.1,())).2.2;have w1:gZ m.q.q.1 m.q.q.2.1 m.q.q.2.2.1 m.q.q.2.2.2.1 m.q.q.2.2.2.2.1 m.q.q.q.1=some (I9 (m.q.q.1,m.q.q.2.1,m.q.q.2.2.1,m.q.q.2.2.2.1,m.q.q.2.2.2.2.1,m.q.q.q.1,()),()):=(Pj (m.q.q.1,m.q.q.2.1,m.q.q.2.2.1,m.q.q.2.2.2.1,m.q.q.2.2.2.2.1,m.q.q.q.1,()) (by show m.q.q.q.1.length≤_;omega)).1;have w3:=(Pj (m.q.q.1,m.q.q.2.1,m.q.q.2.2.1,m.q.q.2.2.2.1,m.q.q.2.2.2.2.1,m.q.q.q.1,()) (by show m.q.q.q.1.length≤_;omega)).2.2;unfold hJ at k1;simp only [r1,c1,i1,t1,a1,z1,w1,oJ,Option.bind_some] at k1
 cases e1:tw m.2.1 m.2.2.1
 ·rw [e1] at k1;injection k1 with k1;injection k1 with k1 _;subst k1;exact ⟨fun h=>(by cases h),fun h=>by rw [r3.2 h.ring] at e1;cases e1⟩
 by_cases e2:(m.1,())∈m.2.2.1
 case neg=>
  rw [e1,aq e2] at k1;injection k1 with k1;injection k1 with k1 _;subst k1;exact ⟨fun h=>(by cases h),fun h=>absurd h.mem e2⟩
 cases e3:pf m.2.2.2.1
 ·rw [e1,ak e2,e3] at k1;injection k1 with k1;injection k1 with k1 _;subst k1;exact ⟨fun h=>(by cases h),fun h=>by rw [i3.2 h.items] at e3;cases e3⟩
 cases b4
 ·rw [e1,ak e2,e3] at k1;injection k1 with k1;injection k1 with k1 _;subst k1;exact ⟨fun h=>(by cases h),fun h=>by have:=t2.2 ⟨h.texts.1,h.texts.2,h.lev,h.short⟩;cases this⟩
 rw [e1,ak e2,e3] at k1;simp only [Bool.not_true,cond_false] at k1
 cases e5:(decide ((0:Int)≤m.q.2.1)&&decide (m.q.2.1≤1000000000))
 ·rw [e5] at k1;injection k1 with k1;injection k1 with k1 _;subst k1;exact ⟨fun h=>(by cases h),fun h=>by rw [om.2 h.round] at e5;cases e5⟩
 cases e6:(decide ((0:Int)≤m.q.2.2.1)&&decide (m.q.2.2.1≤60))
 ·rw [e5,e6] at k1;injection k1 with k1;injection k1 with k1 _;subst k1;exact ⟨fun h=>(by cases h),fun h=>by rw [om.2 h.seen] at e6;cases e6⟩
 cases e8:(decide ((0:Int)≤m.q.2.2.2.1)&&decide (m.q.2.2.2.1≤((mg m.2.2.2.1:Nat):Int)))
 ·rw [e5,e6,e8] at k1;injection k1 with k1;injection k1 with k1 _;subst k1;exact ⟨fun h=>(by cases h),fun h=>by rw [om.2 h.line] at e8;cases e8⟩
 cases e9:(decide ((0:Int)≤m.q.2.2.2.2.1)&&decide (m.q.2.2.2.2.1≤((mg m.2.2.2.1:Nat):Int)))
 ·rw [e5,e6,e8,e9] at k1;injection k1 with k1;injection k1 with k1 _;subst k1;exact ⟨fun h=>(by cases h),fun h=>by rw [om.2 h.heard] at e9;cases e9⟩
 rw [e5,e6,e8,e9] at k1;obtain ⟨t3,t4,t5,t6⟩:=t2.1 rfl;have mk:(Blank (m.q.q.1,m.q.q.2.1,m.q.q.2.2.1,m.q.q.2.2.2.1,m.q.q.2.2.2.2.1,m.q.q.q.1,())∨Uu (m.q.q.1,m.q.q.2.1,m.q.q.2.2.1,m.q.q.2.2.2.1,m.q.q.2.2.2.2.1,m.q.q.q.1,()))→Mo m:=fun hl=>⟨r3.1 e1,e2,i3.1 e3,⟨t3,t4⟩,t5,t6,jO e5,jO e6,jO e8,jO e9,hl⟩
 cases Up:uD (m.q.q.1,m.q.q.2.1,m.q.q.2.2.1,m.q.q.2.2.2.1,m.q.q.2.2.2.2.1,m.q.q.q.1,())
 ·rw [Up] at k1
  cases e11:I9 (m.q.q.1,m.q.q.2.1,m.q.q.2.2.1,m.q.q.2.2.2.1,m.q.q.2.2.2.2.1,m.q.q.q.1,())
  ·rw [e11] at k1;injection k1 with k1;injection k1 with k1 _;subst k1;refine ⟨fun h=>(by cases h),fun h => ?_⟩;rcases h.last with q | q
   ·rw [z3.2 q] at Up;cases Up
   ·rw [w3.2 q] at e11;cases e11
  ·rw [e11] at k1;injection k1 with k1;injection k1 with k1 _;subst k1;exact ⟨fun _=>mk (.inr (w3.1 e11)),fun _=>rfl⟩
 ·rw [Up] at k1;injection k1 with k1;injection k1 with k1 _;subst k1;exact ⟨fun _=>mk (.inl (z3.1 Up)),fun _=>rfl⟩
theorem Mo.small {m:Fu} (h:Mo m):zB m≤5000:=by
 have h1:=pV _ h.items;have h2:=An _ h.short;have h3:=h.texts;have h4:=h.ring.2.1;have h5:m.q.q.q.1.length≤20:=by
  rcases h.last with q | q
  ·rw [show m.q.q.q.1=[] from q.2.2.2.2.2];exact Nat.zero_le _
  ·exact q.q.1
 unfold zB;rw [qF dk (fun _=>rfl),qF dk (fun _=>rfl),qF dk (fun _=>rfl)];omega
end Go.TM
set_option linter.unusedSimpArgs false
set_option linter.unusedVariables false
namespace Go.TM
open Go
theorem CB (b x:Bool):(bif b then some (x,()) else some (false,()))=some ((b&&x),()):=by cases b<;>rfl
theorem Hm (b x:Bool):(bif !b then some (false,()) else some (x,()))=some ((b&&x),()):=by cases b<;>rfl
theorem wB (c:Int) (xs:List (Int×Unit)):iC c xs=some ((decide (c=0)&&decide (((List.length xs:Nat):Int)=0)),())∧ij c xs=some ((decide (c=0)&&decide (((List.length xs:Nat):Int)=0)),()):=by
 unfold iC ij;simp only [CB];exact ⟨trivial,trivial⟩
theorem Ap (ki:Int) (jQ:Int) (gn:List (Int×Unit)) (gT:bM) (fo:List (Int×Unit)) (ic:List (ByteArray×Unit)) (lx ly lA lB fv fw fx fy fA:Int) (dX:List (Int×Unit)):∃b,eS ki jQ gn gT fo ic lx ly lA lB fv fw fx fy fA dX=some (b,())∧fI ki jQ gn gT fo ic lx ly lA lB fv fw fx fy fA dX=some (b,())∧(b=true→jQ=0):=by
 obtain ⟨b6,z1,z2⟩:=uC fv fw fx fy fA dX;obtain ⟨n1,n2⟩:=wB jQ gn;unfold eS fI;simp only [z1,z2,n1,n2,Option.bind_some,CB,Hm];refine ⟨_,rfl,?_,fun h => ?_⟩
 ·congr 2
  ac_rfl
 ·simp only [Bool.and_eq_true,decide_eq_true_eq] at h;exact h.2.1.1
theorem C6 (ca:Int) (dm:Bool) (dg:Int) (cG:Int) (cR:List (Int×Unit)) (aw:bM) (cW:List (Int×Unit)) (cX:List (ByteArray×Unit)) (du:Int) (dv:Int) (bN:Int) (bG:Int) (bO:Int) (bP:Int) (bQ:Int) (bR:Int) (bS:Int) (bD:List (Int×Unit)) (bm:Int) (aZ:Int) (aP:Int) (aN:List (Int×Unit)) (ba:List (Int×Int×Int×(List (Int×Int×Int×ByteArray×Unit))×Unit)) (bq:List (Int×Int×(List (Int×Unit))×Int×Int×Int×ByteArray×(List (Int×Unit))×Unit)) (h0:(List.length cR+wl dk cR)+(List.length aw+wl bJ aw)+(List.length cW+wl dk cW)+(List.length cX+wl sO cX)+(List.length bD+wl dk bD)+(List.length aN+wl dk aN)+(List.length ba+wl aI ba)+(List.length bq+wl ax bq)≤1048576):∃o0,hU ca dm dg cG cR aw cW cX du dv bN bG bO bP bQ bR bS bD bm aZ aP aN ba bq=some (o0,())∧kD ca dm dg cG cR aw cW cX du dv bN bG bO bP bQ bR bS bD bm aZ aP aN ba bq=some (o0,()):=by
 have SC:(List.length cR+wl dk cR)+(List.length aw+wl bJ aw)+(List.length cW+wl dk cW)+(List.length cX+wl sO cX)+(List.length bD+wl dk bD)≤1048576:=by omega
 obtain ⟨nm,n1,n2,n3⟩:=Ap dg cG cR aw cW cX du dv bN bG bO bP bQ bR bS bD;obtain ⟨b,k1,k2,_⟩:=Pg dg cG cR aw cW cX du dv bN bG bO bP bQ bR bS bD SC;obtain ⟨r1,r2⟩:=wB aP aN;obtain ⟨b8,q1,q2,_⟩:=wy aP aN (by omega);obtain ⟨b9,c1,c2⟩:=pF ca aN (by omega);obtain ⟨e,f,g1,g2,g3⟩:∃e f,aG dy (ca,dm,dg,cG,cR,aw,cW,cX,du,dv,bN,bG,bO,bP,bQ,bR,bS,bD,bm,aZ,aP,aN,ba,bq,(0:Int),())=some e∧aG ec (ca,dm,dg,cG,cR,aw,cW,cX,du,dv,bN,bG,bO,bP,bQ,bR,bS,bD,bm,aZ,aP,aN,ba,bq,ba,((List.length ba:Nat):Int),(0:Int),())=some f∧
   ((e=.inl ()∧f=.inl (ca,dm,dg,cG,cR,aw,cW,cX,du,dv,bN,bG,bO,bP,bQ,bR,bS,bD,bm,aZ,aP,aN,ba,bq,()))∨(e=.inr (false,())∧f=.inr (ca,dm,dg,cG,cR,aw,cW,cX,du,dv,bN,bG,bO,bP,bQ,bR,bS,bD,bm,aZ,aP,aN,ba,bq,false,()))):=by
  refine ti ba.length (fun k x y=>x=(ca,dm,dg,cG,cR,aw,cW,cX,du,dv,bN,bG,bO,bP,bQ,bR,bS,bD,bm,aZ,aP,aN,ba,bq,((k:Nat):Int),())∧y=(ca,dm,dg,cG,cR,aw,cW,cX,du,dv,bN,bG,bO,bP,bQ,bR,bS,bD,bm,aZ,aP,aN,ba,bq,ba,((List.length ba:Nat):Int),((k:Nat):Int),())) _ ?_ ⟨rfl,rfl⟩
  rintro k x y hk ⟨rfl,rfl⟩
  by_cases dG:k<ba.length
  ·have hw:=p9 aI ba ba[k] (List.getElem_mem dG);have hl:(ba[k].2.2.2.1).length≤1048576:=by
    have:aI ba[k]=List.length ba[k].2.2.2.1+wl bJ ba[k].2.2.2.1:=rfl;omega
   obtain ⟨x,v1,v2⟩:=Al ba[k].1 ba[k].2.1 ba[k].2.2.1 ba[k].2.2.2.1 hl;simp only [dy,jF,ec,jj,az dG,au,cond_true,aC,List.getElem?_eq_getElem dG,Option.bind_some,v1,v2,aF (show k<4611686018427387904 by omega)]
   cases x
   ·exact .inl ⟨_,_,rfl,rfl,.inr ⟨rfl,rfl⟩⟩
   ·by_cases hn:ba[k].2.1=aP
    ·rw [ak hn];exact .inr ⟨dG,_,_,rfl,rfl,rfl,rfl⟩
    ·rw [aq hn];exact .inl ⟨_,_,rfl,rfl,.inr ⟨rfl,rfl⟩⟩
  ·have:k=ba.length:=by omega
   subst this;exact .inl ⟨.inl (),.inl (ca,dm,dg,cG,cR,aw,cW,cX,du,dv,bN,bG,bO,bP,bQ,bR,bS,bD,bm,aZ,aP,aN,ba,bq,()),by simp only [dy,jF,aA,cond_false],by simp only [ec,jj,aA,cond_false],.inl ⟨rfl,rfl⟩⟩
 unfold hU kD ea;simp only [oJ,sP,tu,n1,n2,k1,k2,r1,r2,q1,q2,c1,c2,g1,g2,Option.bind_some]
 cases (decide (1≤ca)&&decide (ca≤5))
 ·exact ⟨_,rfl,rfl⟩
 cases hB:(decide (0≤bm)&&decide (bm≤9))
 ·exact ⟨_,rfl,rfl⟩
 have hB:=jO hB;simp only [Bool.not_true,cond_false]
 cases dm
 ·cases nm
  ·cases b
   ·by_cases o0:dg=ca
    ·rw [ak o0];exact ⟨_,rfl,rfl⟩
    ·rw [aq o0];exact ⟨_,rfl,rfl⟩
   by_cases o0:dg=ca
   case neg=>rw [aq o0];exact ⟨_,rfl,rfl⟩
   rw [ak o0]
   by_cases o1:aZ=cG
   case neg=>rw [aq o1];exact ⟨_,rfl,rfl⟩
   rw [ak o1]
   by_cases o2:bm<aZ
   ·rw [ak o2,aq (show ¬aZ≤bm by omega)];exact ⟨_,rfl,rfl⟩
   rw [aq o2,ak (show aZ≤bm by omega)]
   cases (decide (aP=0)&&decide (((List.length aN:Nat):Int)=0))
   ·cases b8
    ·exact ⟨_,rfl,rfl⟩
    cases b9
    ·exact ⟨_,rfl,rfl⟩
    cases (decide (IntKind.i64.wrap (aZ+(1:Int))≤aP)&&decide (aP≤bm))
    ·exact ⟨_,rfl,rfl⟩
    rcases g3 with ⟨rfl,rfl⟩ | ⟨rfl,rfl⟩
    ·exact ⟨_,rfl,rfl⟩
    ·exact ⟨_,rfl,rfl⟩
   ·exact ⟨_,rfl,rfl⟩
  ·have h3:=n3 rfl
   by_cases o1:aZ=cG
   case neg=>rw [aq o1];exact ⟨_,rfl,rfl⟩
   rw [ak o1]
   by_cases o2:bm<aZ
   ·rw [ak o2,aq (show ¬aZ≤bm by omega)];exact ⟨_,rfl,rfl⟩
   rw [aq o2,ak (show aZ≤bm by omega)]
   cases (decide (aP=0)&&decide (((List.length aN:Nat):Int)=0))
   ·cases b8
    ·exact ⟨_,rfl,rfl⟩
    cases b9
    ·exact ⟨_,rfl,rfl⟩
    cases (decide (IntKind.i64.wrap (aZ+(1:Int))≤aP)&&decide (aP≤bm))
    ·exact ⟨_,rfl,rfl⟩
    rcases g3 with ⟨rfl,rfl⟩ | ⟨rfl,rfl⟩
    ·exact ⟨_,rfl,rfl⟩
    ·exact ⟨_,rfl,rfl⟩
   ·exact ⟨_,rfl,rfl⟩
 ·cases nm
  ·exact ⟨_,rfl,rfl⟩
  have h3:=n3 rfl
  by_cases o3:aZ=0
  case neg=>rw [aq o3];exact ⟨_,rfl,rfl⟩
  rw [ak o3,ak (show aZ=cG by omega),ak (show aZ≤bm by omega)]
  cases (decide (aP=0)&&decide (((List.length aN:Nat):Int)=0))
  ·exact ⟨_,rfl,rfl⟩
  by_cases o4:((List.length ba:Nat):Int)=0
  ·rw [ak o4,aq (show ¬(0:Int)<((List.length ba:Nat):Int) by omega)];exact ⟨_,rfl,rfl⟩
  ·rw [aq o4,ak (show (0:Int)<((List.length ba:Nat):Int) by omega)];exact ⟨_,rfl,rfl⟩
end Go.TM
set_option linter.unusedSimpArgs false
set_option linter.unusedVariables false
namespace Go.TM
open Go
abbrev bL (d:js):Fu:=(d.2.2.1,d.2.2.2.1,d.2.2.2.2.1,d.q.1,d.q.2.1,d.q.2.2.1,d.q.2.2.2.1,d.q.2.2.2.2.1,d.q.q.1,d.q.q.2.1,d.q.q.2.2.1,d.q.q.2.2.2.1,d.q.q.2.2.2.2.1,d.q.q.q.1,d.q.q.q.2.1,d.q.q.q.2.2.1,())
def Ea (m:Fu):Prop:=m.1=0∧m.2.1=0∧m.2.2.1=[]∧m.2.2.2.1=[]∧m.2.2.2.2.1=[]∧m.q.1=[]∧m.q.2.1=0∧m.q.2.2.1=0∧m.q.2.2.2.1=0∧m.q.2.2.2.2.1=0∧Blank (m.q.q.1,m.q.q.2.1,m.q.q.2.2.1,m.q.q.2.2.2.1,m.q.q.2.2.2.2.1,m.q.q.q.1,())
noncomputable def vZ (m:Fu):Bool:=match eS m.1 m.2.1 m.2.2.1 m.2.2.2.1 m.2.2.2.2.1 m.q.1 m.q.2.1 m.q.2.2.1 m.q.2.2.2.1 m.q.2.2.2.2.1 m.q.q.1 m.q.q.2.1 m.q.q.2.2.1 m.q.q.2.2.2.1 m.q.q.2.2.2.2.1 m.q.q.q.1 with | some x=>x.1 | none=>false
theorem QO {α:Type} (xs:List α):((List.length xs:Nat):Int)=0↔xs=[]:=by rw [←List.length_eq_zero_iff];omega
theorem Hn (m:Fu):eS m.1 m.2.1 m.2.2.1 m.2.2.2.1 m.2.2.2.2.1 m.q.1 m.q.2.1 m.q.2.2.1 m.q.2.2.2.1 m.q.2.2.2.2.1 m.q.q.1 m.q.q.2.1 m.q.q.2.2.1 m.q.q.2.2.2.1 m.q.q.2.2.2.2.1 m.q.q.q.1=some (vZ m,())∧fI m.1 m.2.1 m.2.2.1 m.2.2.2.1 m.2.2.2.2.1 m.q.1 m.q.2.1 m.q.2.2.1 m.q.2.2.2.1 m.q.2.2.2.2.1 m.q.q.1 m.q.q.2.1 m.q.q.2.2.1 m.q.q.2.2.2.1 m.q.q.2.2.2.2.1 m.q.q.q.1=some (vZ m,())∧(vZ m=true↔Ea m):=by
 obtain ⟨b,k1,k2,_⟩:=Ap m.1 m.2.1 m.2.2.1 m.2.2.2.1 m.2.2.2.2.1 m.q.1 m.q.2.1 m.q.2.2.1 m.q.2.2.2.1 m.q.2.2.2.2.1 m.q.q.1 m.q.q.2.1 m.q.q.2.2.1 m.q.q.2.2.2.1 m.q.q.2.2.2.2.1 m.q.q.q.1;have hb:vZ m=b:=by unfold vZ;rw [k1]
 rw [hb];refine ⟨k1,k2,?_⟩;have z1:cU m.q.q.1 m.q.q.2.1 m.q.q.2.2.1 m.q.q.2.2.2.1 m.q.q.2.2.2.2.1 m.q.q.q.1=some (uD (m.q.q.1,m.q.q.2.1,m.q.q.2.2.1,m.q.q.2.2.2.1,m.q.q.2.2.2.2.1,m.q.q.q.1,()),()):=(vY (m.q.q.1,m.q.q.2.1,m.q.q.2.2.1,m.q.q.2.2.2.1,m.q.q.2.2.2.2.1,m.q.q.q.1,())).2.1;have z2:eN m.q.q.1 m.q.q.2.1 m.q.q.2.2.1 m.q.q.2.2.2.1 m.q.q.2.2.2.2.1 m.q.q.q.1=some (uD (m.q.q.1,m.q.q.2.1,m.q.q.2.2.1,m.q.q.2.2.2.1,m.q.q.2.2.2.2.1,m.q.q.q.1,()),()):=(vY (m.q.q.1,m.q.q.2.1,m.q.q.2.2.1,m.q.q.2.2.2.1,m.q.q.2.2.2.2.1,m.q.q.q.1,())).1;have z3:=(vY (m.q.q.1,m.q.q.2.1,m.q.q.2.2.1,m.q.q.2.2.2.1,m.q.q.2.2.2.2.1,m.q.q.q.1,())).2.2;obtain ⟨n1,n2⟩:=wB m.2.1 m.2.2.1;unfold eS at k1;simp only [z2,n1,Option.bind_some,CB,Hm] at k1;injection k1 with k1;injection k1 with k1 _;rw [←k1];unfold Ea;simp only [Bool.and_eq_true,decide_eq_true_eq,QO,z3]
 constructor
 ·rintro ⟨a1,⟨a2,a3⟩,a4,a5,a6,a7,a8,a9,a10,a11⟩
  exact ⟨a1,a2,a3,a4,a5,a6,a7,a8,a9,a10,a11⟩
 ·rintro ⟨a1,a2,a3,a4,a5,a6,a7,a8,a9,a10,a11⟩
  exact ⟨a1,⟨a2,a3⟩,a4,a5,a6,a7,a8,a9,a10,a11⟩
structure Ho (d:js):Prop where
 id:1≤d.1∧d.1≤5
 afT:0≤d.q.q.q.2.2.2.1∧d.q.q.q.2.2.2.1≤9
 dead:d.2.1=true→Ea (bL d)∧d.q.q.q.2.2.2.2.1=0∧d.q.q.q.q.1=0∧d.q.q.q.q.2.1=[]∧d.q.q.q.q.2.2.1=[]
 Pn:Ea (bL d)∨(Mo (bL d)∧d.2.2.1=d.1)
 old:d.q.q.q.2.2.2.2.1=d.2.2.2.1∧d.q.q.q.2.2.2.2.1≤d.q.q.q.2.2.2.1
 Hp:(d.q.q.q.q.1=0∧d.q.q.q.q.2.1=[]∧d.q.q.q.q.2.2.1=[])∨(wX d.q.q.q.q.1 d.q.q.q.q.2.1∧(d.1,())∈d.q.q.q.q.2.1∧(d.q.q.q.2.2.2.2.1+1≤d.q.q.q.q.1∧d.q.q.q.q.1≤d.q.q.q.2.2.2.1)∧∀b∈d.q.q.q.q.2.2.1,CA b∧b.2.1=d.q.q.q.q.1)
def uE (d:js):Nat:=(List.length d.2.2.2.2.1+wl dk d.2.2.2.2.1)+(List.length d.q.1+wl bJ d.q.1)+(List.length d.q.2.1+wl dk d.q.2.1)+(List.length d.q.2.2.1+wl sO d.q.2.2.1)+(List.length d.q.q.q.2.2.1+wl dk d.q.q.q.2.2.1)+(List.length d.q.q.q.q.2.1+wl dk d.q.q.q.q.2.1)+(List.length d.q.q.q.q.2.2.1+wl aI d.q.q.q.q.2.2.1)+(List.length d.q.q.q.q.2.2.2.1+wl ax d.q.q.q.q.2.2.2.1)
noncomputable def AO (d:js):Bool:=match hU d.1 d.2.1 d.2.2.1 d.2.2.2.1 d.2.2.2.2.1 d.q.1 d.q.2.1 d.q.2.2.1 d.q.2.2.2.1 d.q.2.2.2.2.1 d.q.q.1 d.q.q.2.1 d.q.q.2.2.1 d.q.q.2.2.2.1 d.q.q.2.2.2.2.1 d.q.q.q.1 d.q.q.q.2.1 d.q.q.q.2.2.1 d.q.q.q.2.2.2.1 d.q.q.q.2.2.2.2.1 d.q.q.q.q.1 d.q.q.q.q.2.1 d.q.q.q.q.2.2.1 d.q.q.q.q.2.2.2.1 with | some x=>x.1 | none=>false
theorem Ho.afU {d:js} (h:Ho d):0≤d.q.q.q.2.2.2.2.1:=by
 rcases h.Pn with q | ⟨q,_⟩
 ·have h1:d.2.2.2.1=0:=q.2.1;have h2:=h.old.1;omega
 ·have h1:1≤d.2.2.2.1:=q.ring.1.1;have h2:=h.old.1;omega
theorem Po (d:js) (h:uE d≤1048576):∃e,aG dy (d.1,d.2.1,d.2.2.1,d.2.2.2.1,d.2.2.2.2.1,d.q.1,d.q.2.1,d.q.2.2.1,d.q.2.2.2.1,d.q.2.2.2.2.1,d.q.q.1,d.q.q.2.1,d.q.q.2.2.1,d.q.q.2.2.2.1,d.q.q.2.2.2.2.1,d.q.q.q.1,d.q.q.q.2.1,d.q.q.q.2.2.1,d.q.q.q.2.2.2.1,d.q.q.q.2.2.2.2.1,d.q.q.q.q.1,d.q.q.q.q.2.1,d.q.q.q.q.2.2.1,d.q.q.q.q.2.2.2.1,(0:Int),())=some e∧((e=.inl ()∧∀b∈d.q.q.q.q.2.2.1,CA b∧b.2.1=d.q.q.q.q.1)∨(e=.inr (false,())∧¬∀b∈d.q.q.q.q.2.2.1,CA b∧b.2.1=d.q.q.q.q.1)):=by
 unfold uE at h;obtain ⟨e,he,hq⟩:=fV (round:=dy) (x:=(d.1,d.2.1,d.2.2.1,d.2.2.2.1,d.2.2.2.2.1,d.q.1,d.q.2.1,d.q.2.2.1,d.q.2.2.2.1,d.q.2.2.2.2.1,d.q.q.1,d.q.q.2.1,d.q.q.2.2.1,d.q.q.2.2.2.1,d.q.q.2.2.2.2.1,d.q.q.q.1,d.q.q.q.2.1,d.q.q.q.2.2.1,d.q.q.q.2.2.2.1,d.q.q.q.2.2.2.2.1,d.q.q.q.q.1,d.q.q.q.q.2.1,d.q.q.q.q.2.2.1,d.q.q.q.q.2.2.2.1,((0:Nat):Int),())) (d.q.q.q.q.2.2.1).length (fun k x=>x=(d.1,d.2.1,d.2.2.1,d.2.2.2.1,d.2.2.2.2.1,d.q.1,d.q.2.1,d.q.2.2.1,d.q.2.2.2.1,d.q.2.2.2.2.1,d.q.q.1,d.q.q.2.1,d.q.q.2.2.1,d.q.q.2.2.2.1,d.q.q.2.2.2.2.1,d.q.q.q.1,d.q.q.q.2.1,d.q.q.q.2.2.1,d.q.q.q.2.2.2.1,d.q.q.q.2.2.2.2.1,d.q.q.q.q.1,d.q.q.q.q.2.1,d.q.q.q.q.2.2.1,d.q.q.q.q.2.2.2.1,((k:Nat):Int),())∧∀j (hj:j<(d.q.q.q.q.2.2.1).length),j<k→CA (d.q.q.q.q.2.2.1)[j]∧(d.q.q.q.q.2.2.1)[j].2.1=d.q.q.q.q.1)
  (fun e=>(e=.inl ()∧∀b∈d.q.q.q.q.2.2.1,CA b∧b.2.1=d.q.q.q.q.1)∨(e=.inr (false,())∧¬∀b∈d.q.q.q.q.2.2.1,CA b∧b.2.1=d.q.q.q.q.1)) (by
   rintro x ⟨rfl,g⟩
   refine ⟨.inl (),by simp only [dy,jF,aA,cond_false],.inl ⟨rfl,fun b hb => ?_⟩⟩;obtain ⟨k,hk,rfl⟩:=List.mem_iff_getElem.1 hb;exact g k hk hk) (by
   rintro k x hk ⟨rfl,g⟩
   have hl:=yF d.q.q.q.q.2.2.1 hk (by omega);have hb:=(uz (d.q.q.q.q.2.2.1)[k] hl).1;have hi:=Kt (d.q.q.q.q.2.2.1)[k] hl;simp only [dy,jF,az hk,au,cond_true,aC,List.getElem?_eq_getElem hk,Option.bind_some,hb,aF (show k<4611686018427387904 by omega)]
   cases hv:tv (d.q.q.q.q.2.2.1)[k]
   ·exact .inl ⟨.inr (false,()),rfl,.inr ⟨rfl,fun hn=>by rw [hi.2 (hn _ (List.getElem_mem hk)).1] at hv;cases hv⟩⟩
   ·by_cases hn:(d.q.q.q.q.2.2.1)[k].2.1=d.q.q.q.q.1
    ·rw [ak hn];refine .inr ⟨_,rfl,rfl,fun j hj zk => ?_⟩
     by_cases e:j<k
     ·exact g j hj e
     ·have:j=k:=by omega
      subst this;exact ⟨hi.1 hv,hn⟩
    ·rw [aq hn];exact .inl ⟨.inr (false,()),rfl,.inr ⟨rfl,fun hq=>hn (hq _ (List.getElem_mem hk)).2⟩⟩) ⟨rfl,fun j _ h=>by omega⟩
 exact ⟨e,he,hq⟩
theorem some_inj {a b:Bool} (h:some (a,())=some (b,())):a=b:=by
 injection h with h;injection h with h _
theorem Jb (d:js) (h:uE d≤1048576):hU d.1 d.2.1 d.2.2.1 d.2.2.2.1 d.2.2.2.2.1 d.q.1 d.q.2.1 d.q.2.2.1 d.q.2.2.2.1 d.q.2.2.2.2.1 d.q.q.1 d.q.q.2.1 d.q.q.2.2.1 d.q.q.2.2.2.1 d.q.q.2.2.2.2.1 d.q.q.q.1 d.q.q.q.2.1 d.q.q.q.2.2.1 d.q.q.q.2.2.2.1 d.q.q.q.2.2.2.2.1 d.q.q.q.q.1 d.q.q.q.q.2.1 d.q.q.q.q.2.2.1 d.q.q.q.q.2.2.2.1=some (AO d,())∧kD d.1 d.2.1 d.2.2.1 d.2.2.2.1 d.2.2.2.2.1 d.q.1 d.q.2.1 d.q.2.2.1 d.q.2.2.2.1 d.q.2.2.2.2.1 d.q.q.1 d.q.q.2.1 d.q.q.2.2.1 d.q.q.2.2.2.1 d.q.q.2.2.2.2.1 d.q.q.q.1 d.q.q.q.2.1 d.q.q.q.2.2.1 d.q.q.q.2.2.2.1 d.q.q.q.2.2.2.2.1 d.q.q.q.q.1 d.q.q.q.q.2.1 d.q.q.q.q.2.2.1 d.q.q.q.q.2.2.2.1=some (AO d,())∧(AO d=true↔Ho d):=by
 obtain ⟨b,k1,k2⟩:=C6 d.1 d.2.1 d.2.2.1 d.2.2.2.1 d.2.2.2.2.1 d.q.1 d.q.2.1 d.q.2.2.1 d.q.2.2.2.1 d.q.2.2.2.2.1 d.q.q.1 d.q.q.2.1 d.q.q.2.2.1 d.q.q.2.2.2.1 d.q.q.2.2.2.2.1 d.q.q.q.1 d.q.q.q.2.1 d.q.q.q.2.2.1 d.q.q.q.2.2.2.1 d.q.q.q.2.2.2.2.1 d.q.q.q.q.1 d.q.q.q.q.2.1 d.q.q.q.q.2.2.1 d.q.q.q.q.2.2.2.1 h;have hb:AO d=b:=by unfold AO;rw [k1]
 rw [hb];refine ⟨k1,k2,?_⟩;have h0:=h;unfold uE at h0;have n1:eS d.2.2.1 d.2.2.2.1 d.2.2.2.2.1 d.q.1 d.q.2.1 d.q.2.2.1 d.q.2.2.2.1 d.q.2.2.2.2.1 d.q.q.1 d.q.q.2.1 d.q.q.2.2.1 d.q.q.2.2.2.1 d.q.q.2.2.2.2.1 d.q.q.q.1 d.q.q.q.2.1 d.q.q.q.2.2.1=some (vZ (bL d),()):=(Hn (bL d)).1;have n3:=(Hn (bL d)).2.2;have hw:zB (bL d)≤1048576:=by
  show (List.length d.2.2.2.2.1+wl dk d.2.2.2.2.1)+(List.length d.q.1+wl bJ d.q.1)+(List.length d.q.2.1+wl dk d.q.2.1)+(List.length d.q.2.2.1+wl sO d.q.2.2.1)+(List.length d.q.q.q.2.2.1+wl dk d.q.q.q.2.2.1)≤1048576;omega
 have m1:hJ d.2.2.1 d.2.2.2.1 d.2.2.2.2.1 d.q.1 d.q.2.1 d.q.2.2.1 d.q.2.2.2.1 d.q.2.2.2.2.1 d.q.q.1 d.q.q.2.1 d.q.q.2.2.1 d.q.q.2.2.2.1 d.q.q.2.2.2.2.1 d.q.q.q.1 d.q.q.q.2.1 d.q.q.q.2.2.1=some (Hl (bL d),()):=(Pk (bL d) hw).1;have m3:=(Pk (bL d) hw).2.2;obtain ⟨r1,_⟩:=wB d.q.q.q.q.1 d.q.q.q.q.2.1;obtain ⟨q1,_,q3⟩:=wA d.q.q.q.q.1 d.q.q.q.q.2.1 (by omega);have c1:=wz d.q.q.q.q.2.1 d.1 (by omega);obtain ⟨e,g1,g2⟩:=Po d h;have hnr:(decide (d.q.q.q.q.1=0)&&decide (((List.length d.q.q.q.q.2.1:Nat):Int)=0))=true↔(d.q.q.q.q.1=0∧d.q.q.q.q.2.1=[]):=by rw [om,QO]
 unfold hU at k1;simp only [oJ,n1,m1,r1,q1,c1,g1,Option.bind_some] at k1
 cases e1:(decide (1≤d.1)&&decide (d.1≤5))
 ·rw [e1] at k1;have:=some_inj k1;subst this;exact ⟨fun h=>(by cases h),fun h=>by rw [om.2 h.id] at e1;cases e1⟩
 have a1:=jO e1
 cases e2:(decide (0≤d.q.q.q.2.2.2.1)&&decide (d.q.q.q.2.2.2.1≤9))
 ·rw [e1,e2] at k1;have:=some_inj k1;subst this;exact ⟨fun h=>(by cases h),fun h=>by rw [om.2 h.afT] at e2;cases e2⟩
 have a2:=jO e2;rw [e1,e2] at k1;simp only [Bool.not_true,cond_false] at k1
 cases e3:d.2.1
 ·-- it aia
  rw [e3] at k1;have tail:(Hl (bL d)=true→d.2.2.1=d.1→False)∨True:=.inr trivial;have rest:(Ea (bL d)∨(Mo (bL d)∧d.2.2.1=d.1))→(0≤d.2.2.2.1∧d.2.2.2.1≤9)→(bif !decide (d.q.q.q.2.2.2.2.1=d.2.2.2.1) then some (false,()) else bif decide (d.q.q.q.2.2.2.1<d.q.q.q.2.2.2.2.1) then some (false,()) else
    bif (decide (d.q.q.q.q.1=0)&&decide (((List.length d.q.q.q.q.2.1:Nat):Int)=0)) then some (decide (((List.length d.q.q.q.q.2.2.1:Nat):Int)=0),()) else
    bif !tw d.q.q.q.q.1 d.q.q.q.q.2.1 then some (false,()) else bif !decide ((d.1,())∈d.q.q.q.q.2.1) then some (false,()) else
    bif !(decide (IntKind.i64.wrap (d.q.q.q.2.2.2.2.1+(1:Int))≤d.q.q.q.q.1)&&decide (d.q.q.q.q.1≤d.q.q.q.2.2.2.1)) then some (false,()) else cT (some e) (fun _=>some (true,())) (fun y=>some (y.1,())))=some (b,())→(b=true↔Ho d):=by
   intro hm hr k
   by_cases o1:d.q.q.q.2.2.2.2.1=d.2.2.2.1
   case neg=>
    rw [aq o1] at k;have:=some_inj k;subst this;exact ⟨fun h=>(by cases h),fun h=>absurd h.old.1 o1⟩
   by_cases o2:d.q.q.q.2.2.2.1<d.q.q.q.2.2.2.2.1
   ·rw [ak o1,ak o2] at k;have:=some_inj k;subst this;exact ⟨fun h=>(by cases h),fun h=>by have:=h.old.2;omega⟩
   rw [ak o1,aq o2,ef (by omega) (by omega)] at k;have mk:((d.q.q.q.q.1=0∧d.q.q.q.q.2.1=[]∧d.q.q.q.q.2.2.1=[])∨(wX d.q.q.q.q.1 d.q.q.q.q.2.1∧(d.1,())∈d.q.q.q.q.2.1∧(d.q.q.q.2.2.2.2.1+1≤d.q.q.q.q.1∧d.q.q.q.q.1≤d.q.q.q.2.2.2.1)∧∀b∈d.q.q.q.q.2.2.1,CA b∧b.2.1=d.q.q.q.q.1))→Ho d:=fun hj=>
    ⟨a1,a2,fun hd=>(by rw [e3] at hd;cases hd),hm,⟨o1,by omega⟩,hj⟩
   cases e4:(decide (d.q.q.q.q.1=0)&&decide (((List.length d.q.q.q.q.2.1:Nat):Int)=0))
   ·have Jv:¬(d.q.q.q.q.1=0∧d.q.q.q.q.2.1=[]∧d.q.q.q.q.2.2.1=[]):=fun hz=>by rw [hnr.2 ⟨hz.1,hz.2.1⟩] at e4;cases e4
    rw [e4] at k
    cases e5:tw d.q.q.q.q.1 d.q.q.q.q.2.1
    ·rw [e5] at k;have:=some_inj k;subst this;exact ⟨fun h=>(by cases h),fun h=>by
      rcases h.Hp with q | q
      ·exact absurd q Jv
      ·rw [q3.2 q.1] at e5;cases e5⟩
    by_cases e6:(d.1,())∈d.q.q.q.q.2.1
    case neg=>
     rw [e5,aq e6] at k;have:=some_inj k;subst this;exact ⟨fun h=>(by cases h),fun h=>by
      rcases h.Hp with q | q
      ·exact absurd q Jv
      ·exact absurd q.2.1 e6⟩
    cases e7:(decide (d.q.q.q.2.2.2.2.1+1≤d.q.q.q.q.1)&&decide (d.q.q.q.q.1≤d.q.q.q.2.2.2.1))
    ·rw [e5,ak e6,e7] at k;have:=some_inj k;subst this;exact ⟨fun h=>(by cases h),fun h=>by
      rcases h.Hp with q | q
      ·exact absurd q Jv
      ·rw [om.2 q.2.2.1] at e7;cases e7⟩
    rw [e5,ak e6,e7] at k;rcases g2 with ⟨rfl,g⟩ | ⟨rfl,g⟩
    ·have:=some_inj k;subst this;exact ⟨fun _=>mk (.inr ⟨q3.1 e5,e6,jO e7,g⟩),fun _=>rfl⟩
    ·have:=some_inj k;subst this;exact ⟨fun h=>(by cases h),fun h=>by
      rcases h.Hp with q | q
      ·exact absurd q Jv
      ·exact absurd q.2.2.2 g⟩
   ·have hn:=hnr.1 e4;rw [e4] at k;have:=some_inj k;subst this;rw [decide_eq_true_eq,QO];refine ⟨fun h=>mk (.inl ⟨hn.1,hn.2,h⟩),fun h => ?_⟩;rcases h.Hp with q | q
    ·exact q.2.2
    ·have:=q.1.1.1;omega
  cases e4:vZ (bL d)
  ·rw [e4] at k1;simp only [Bool.not_false,cond_true] at k1;have nn:¬Ea (bL d):=fun hz=>by rw [n3.2 hz] at e4;cases e4
   cases e5:Hl (bL d)
   ·rw [e5] at k1;have:=some_inj k1;subst this;exact ⟨fun h=>(by cases h),fun h=>by
     rcases h.Pn with q | q
     ·exact absurd q nn
     ·rw [m3.2 q.1] at e5;cases e5⟩
   by_cases e6:d.2.2.1=d.1
   case neg=>
    rw [e5,aq e6] at k1;have:=some_inj k1;subst this;exact ⟨fun h=>(by cases h),fun h=>by
     rcases h.Pn with q | q
     ·exact absurd q nn
     ·exact absurd q.2 e6⟩
   rw [e5,ak e6] at k1;have hq:=m3.1 e5;have h3:1≤d.2.2.2.1∧d.2.2.2.1≤9:=hq.ring.1;exact rest (.inr ⟨hq,e6⟩) ⟨by omega,h3.2⟩ k1
  ·rw [e4] at k1;have hz:=n3.1 e4;have h3:d.2.2.2.1=0:=hz.2.1;exact rest (.inl hz) ⟨by omega,by omega⟩ k1
 ·-- it is dead
  rw [e3] at k1;simp only [cond_true] at k1
  cases e4:vZ (bL d)
  ·rw [e4] at k1;have:=some_inj k1;subst this;exact ⟨fun h=>(by cases h),fun h=>by rw [n3.2 (h.dead e3).1] at e4;cases e4⟩
  have hz:=n3.1 e4
  by_cases e5:d.q.q.q.2.2.2.2.1=0
  case neg=>
   rw [e4,aq e5] at k1;have:=some_inj k1;subst this;exact ⟨fun h=>(by cases h),fun h=>absurd (h.dead e3).2.1 e5⟩
  cases e6:(decide (d.q.q.q.q.1=0)&&decide (((List.length d.q.q.q.q.2.1:Nat):Int)=0))
  ·rw [e4,ak e5,e6] at k1;have:=some_inj k1;subst this;exact ⟨fun h=>(by cases h),fun h=>by rw [hnr.2 ⟨(h.dead e3).2.2.1,(h.dead e3).2.2.2.1⟩] at e6;cases e6⟩
  have hn:=hnr.1 e6;rw [e4,ak e5,e6] at k1;have:=some_inj k1;subst this;rw [decide_eq_true_eq,QO];have h3:d.2.2.2.1=0:=hz.2.1;exact ⟨fun h=>⟨a1,a2,fun _=>⟨hz,e5,hn.1,hn.2,h⟩,.inl hz,⟨by omega,by omega⟩,.inl ⟨hn.1,hn.2,h⟩⟩,fun h=>(h.dead e3).2.2.2.2⟩
end Go.TM
set_option linter.unusedSimpArgs false
set_option linter.unusedVariables false
namespace Go.TM
open Go
def qQ:bM→jN→bM
 | [],m=>[m]
 |r::xs,m=>if r.1<m.1 then r::qQ xs m else if r.1=m.1 then r::xs else m::r::xs
def Mp (xs:bM):Prop:=xs.Pairwise fun a b=>a.1<b.1
def mA (xs:bM) (m:jN):Nat:=(xs.takeWhile fun r=>decide (r.1<m.1)).length
theorem QP (xs:bM) (m:jN):mA xs m≤xs.length:=(List.takeWhile_sublist _).length_le
theorem zC (r:jN) (xs:bM) (m:jN):mA (r::xs) m=if r.1<m.1 then mA xs m+1 else 0:=by
 unfold mA;rw [List.takeWhile_cons]
 by_cases h:r.1<m.1
 ·simp [h]
 ·simp [h]
theorem Hq (m:jN):(xs:bM)→qQ xs m=if h:mA xs m<xs.length then (if xs[mA xs m].1=m.1 then xs else xs.take (mA xs m)++([m]++xs.drop (mA xs m))) else xs.take (mA xs m)++([m]++xs.drop (mA xs m))
 | []=>rfl
 |r::xs=>by
  have ih:=Hq m xs;unfold qQ
  by_cases h:r.1<m.1
  ·rw [if_pos h,ih];have hp:mA (r::xs) m=mA xs m+1:=by rw [zC,if_pos h]
   by_cases h2:mA xs m<xs.length
   ·have h3:mA (r::xs) m<(r::xs).length:=by rw [hp,List.length_cons];omega
    rw [dif_pos h2,dif_pos h3];have e:(r::xs)[mA (r::xs) m]=xs[mA xs m]:=by simp [hp]
    rw [e]
    by_cases h4:xs[mA xs m].1=m.1
    ·rw [if_pos h4,if_pos h4]
    ·rw [if_neg h4,if_neg h4,hp];rfl
   ·have h3:¬mA (r::xs) m<(r::xs).length:=by rw [hp,List.length_cons];omega
    rw [dif_neg h2,dif_neg h3,hp];rfl
  ·rw [if_neg h];have hp:mA (r::xs) m=0:=by rw [zC,if_neg h]
   have h3:mA (r::xs) m<(r::xs).length:=by rw [hp,List.length_cons];omega
   rw [dif_pos h3];have e:(r::xs)[mA (r::xs) m]=r:=by simp [hp]
   rw [e,hp];rfl
theorem Pp {xs:bM} (h:gk xs xs.length):Mp xs:=by
 have key:∀(d i:Nat) (hi:i+d+1<xs.length),xs[i].1<xs[i+d+1].1:=by
  intro d
  induction d with
  |zero=>intro i hi;exact (h (i+1) hi hi).2 (by omega)
  |succ d ih=>
   intro i hi;have h1:=ih i (by omega);have h2:=(h (i+(d+1)+1) hi hi).2 (by omega);have e:i+(d+1)+1-1=i+d+1:=by omega
   simp only [e] at h2;omega
 unfold Mp;rw [List.pairwise_iff_getElem];intro i j hi hj hij;have:=key (j-i-1) i (by omega);simpa [show i+(j-i-1)+1=j by omega] using this
theorem Pq {xs:bM} (h:Mp xs) (hi:∀r∈xs,vW r):gk xs xs.length:=by
 intro k hk _;refine ⟨hi _ (List.getElem_mem hk),fun h0 => ?_⟩;unfold Mp at h;rw [List.pairwise_iff_getElem] at h;exact h (k-1) k (by omega) hk (by omega)
theorem wC {xs:bM} (h:gk xs xs.length):∀r∈xs,vW r:=by
 intro r hr;obtain ⟨k,hk,rfl⟩:=List.mem_iff_getElem.1 hr;exact (h k hk hk).1
theorem CC {r m:jN}:{xs:bM}→r∈qQ xs m→r=m∨r∈xs
 | [],h=>by
  unfold qQ at h;exact .inl (List.mem_singleton.1 h)
 |x::xs,h=>by
  unfold qQ at h
  split at h
  ·rcases List.mem_cons.1 h with rfl | h
   ·exact .inr List.mem_cons_self
   ·exact (CC h).imp id (List.mem_cons_of_mem _)
  ·split at h
   ·exact .inr h
   ·rcases List.mem_cons.1 h with rfl | h
    ·exact .inl rfl
    ·exact .inr h
theorem Hr {m:jN}:{xs:bM}→Mp xs→Mp (qQ xs m)
 | [],_=>by unfold qQ Mp;simp
 |x::xs,h=>by
  unfold Mp at h;rw [List.pairwise_cons] at h;unfold qQ
  split
  ·rename_i dG;unfold Mp;rw [List.pairwise_cons];refine ⟨fun y hy => ?_,Hr h.2⟩;rcases CC hy with rfl | hy
   ·exact dG
   ·exact h.1 y hy
  ·split
   ·unfold Mp;rw [List.pairwise_cons];exact h
   ·unfold Mp;rw [List.pairwise_cons,List.pairwise_cons];refine ⟨fun y hy => ?_,h⟩;rcases List.mem_cons.1 hy with rfl | hy
    ·omega
    ·have:=h.1 y hy;omega
theorem Jc {xs:bM} {m:jN} (h:gk xs xs.length) (hm:vW m):gk (qQ xs m) (qQ xs m).length:=
 Pq (Hr (Pp h)) fun r hr=>(CC hr).elim (fun e=>e▸hm) (wC h r)
def nz (xs:bM) (m:jN):bM:=xs.filter fun r=>decide (r.1<m.1)
def rS (xs:bM) (m:jN):bM:=xs.filter fun r=>decide (m.1<r.1)
def yH (xs:bM) (s:Int):Bool:=xs.any fun r=>decide (r.1=s)
theorem Aq (m:jN):(xs:bM)→Mp xs→qQ xs m=bif yH xs m.1 then xs else nz xs m++[m]++rS xs m
 | [],_=>rfl
 |r::xs,h=>by
  unfold Mp at h;rw [List.pairwise_cons] at h;have ih:=Aq m xs h.2;unfold qQ
  by_cases h1:r.1<m.1
  ·rw [if_pos h1,ih];have e1:yH (r::xs) m.1=yH xs m.1:=by unfold yH;rw [List.any_cons,aq (show ¬r.1=m.1 by omega)];rfl
   have e2:nz (r::xs) m=r::nz xs m:=by unfold nz;rw [List.filter_cons,if_pos (ak h1)]
   have e3:rS (r::xs) m=rS xs m:=by unfold rS;rw [List.filter_cons,if_neg (by rw [decide_eq_true_eq];omega)]
   rw [e1,e2,e3]
   cases yH xs m.1<;>rfl
  ·rw [if_neg h1]
   by_cases h2:r.1=m.1
   ·have e1:yH (r::xs) m.1=true:=by unfold yH;rw [List.any_cons,ak h2];rfl
    rw [if_pos h2,e1];rfl
   ·rw [if_neg h2];have ot:∀y∈r::xs,m.1<y.1:=by
     intro y hy;rcases List.mem_cons.1 hy with rfl | hy
     ·omega
     ·have:=h.1 y hy;omega
    have e1:yH (r::xs) m.1=false:=by
     unfold yH;rw [List.any_eq_false];intro y hy;have:=ot y hy;rw [decide_eq_true_eq];omega
    have e2:nz (r::xs) m=[]:=by
     unfold nz;rw [List.filter_eq_nil_iff];intro y hy;have:=ot y hy;rw [decide_eq_true_eq];omega
    have e3:rS (r::xs) m=r::xs:=by
     unfold rS;rw [List.filter_eq_self];intro y hy;exact ak (ot y hy)
    rw [e1,e2,e3];rfl
theorem Fv (xs:bM) (m:jN) (h:xs.length≤1048576) (hi:pf xs=true) (hm:Cy m=true):qK xs m.1 m.2.1 m.2.2.1 m.2.2.2.1=some (qQ xs m,()):=by
 obtain ⟨k1,_,k3⟩:=rR xs h;obtain ⟨q1,_,_⟩:=Ks m;have hs:=Pp (k3.1 hi);have hlen:∀k,(nz (xs.take k) m).length≤k:=fun k=>Nat.le_trans (List.length_filter_le _ _) (by rw [List.length_take];omega)
 have aa9:∀k,(rS (xs.take k) m).length≤k:=fun k=>Nat.le_trans (List.length_filter_le _ _) (by rw [List.length_take];omega)
 have l1:=pP (round:=iP) (n:=xs.length) (fun k=>(xs,m.1,m.2.1,m.2.2.1,m.2.2.2.1,xs,nz (xs.take k) m,((k:Nat):Int),())) (fun k=>some (bif yH (xs.drop k) m.1 then .inr (xs,()) else .inl (xs,m.1,m.2.1,m.2.2.1,m.2.2.2.1,nz xs m,())))
  ⟨.inl (xs,m.1,m.2.1,m.2.2.1,m.2.2.2.1,nz xs m,()),by simp only [iP,qg,aA,cond_false,List.take_length],by rw [List.drop_length];rfl⟩ (fun k hk=>by
   have e:yH (xs.drop k) m.1=(decide (xs[k].1=m.1)||yH (xs.drop (k+1)) m.1):=by unfold yH;rw [List.drop_eq_getElem_cons hk,List.any_cons]
   have e2:nz (xs.take (k+1)) m=nz (xs.take k) m++(if decide (xs[k].1<m.1)=true then [xs[k]] else []):=by
    unfold nz;rw [List.take_succ_eq_append_getElem hk,List.filter_append,List.filter_cons]
    split<;>rfl
   have hb:Nat.ble (((nz (xs.take k) m).length+1)*40) lim=true:=bh (by have:=hlen k;unfold lim;omega);simp only [iP,qg,az hk,au,cond_true,aC,List.getElem?_eq_getElem hk,Option.bind_some,aF (show k<4611686018427387904 by omega),hb,e,e2]
   by_cases h1:xs[k].1=m.1
   ·rw [ak h1];exact .inl ⟨_,rfl,rfl⟩
   ·rw [aq h1];refine .inr ⟨?_,rfl⟩
    by_cases h2:xs[k].1<m.1
    ·rw [ak h2];rfl
    ·rw [aq h2,if_neg (by decide),List.append_nil];rfl) 0 (Nat.zero_le _)
 have l1:aG iP (xs,m.1,m.2.1,m.2.2.1,m.2.2.2.1,xs,[],(0:Int),())=_:=l1;rw [List.drop_zero] at l1;have l2:=bT (round:=gK) (e:=.inl (nz xs m++[m]++rS xs m,())) xs.length (fun k=>(xs,m.1,m.2.1,m.2.2.1,m.2.2.2.1,nz xs m++[m]++rS (xs.take k) m,((k:Nat):Int),())) (by
  simp only [gK,qh,aA,cond_false,List.take_length]) (fun k hk=>by
   have e2:rS (xs.take (k+1)) m=rS (xs.take k) m++(if decide (m.1<xs[k].1)=true then [xs[k]] else []):=by
    unfold rS;rw [List.take_succ_eq_append_getElem hk,List.filter_append,List.filter_cons]
    split<;>rfl
   have hb:Nat.ble (((nz xs m++[m]++rS (xs.take k) m).length+1)*40) lim=true:=bh (by
    have h1:=hlen xs.length;rw [List.take_length] at h1;have h2:=aa9 k;simp only [List.length_append,List.length_cons,List.length_nil];unfold lim;omega)
   simp only [gK,qh,az hk,au,cond_true,aC,List.getElem?_eq_getElem hk,Option.bind_some,aF (show k<4611686018427387904 by omega),hb,e2]
   by_cases h2:m.1<xs[k].1
   ·rw [ak h2,if_pos rfl,←List.append_assoc];rfl
   ·rw [aq h2,if_neg (by decide),List.append_nil];rfl)
 have l2:aG gK (xs,m.1,m.2.1,m.2.2.1,m.2.2.2.1,nz xs m++[m]++rS (xs.take 0) m,(0:Int),())=_:=l2;rw [show rS (xs.take 0) m=[] from rfl,List.append_nil] at l2;have MF:Nat.ble ((0+xs.length)*40) lim=true:=bh (by unfold lim;omega);have H6:Nat.ble (((nz xs m).length+1)*40) lim=true:=bh (by
  have h1:=hlen xs.length;rw [List.take_length] at h1;unfold lim;omega)
 rw [Aq m xs hs];unfold qK;simp only [k1,q1,hi,hm,MF,cond_true,Bool.not_true,cond_false,Option.bind_some,List.nil_append,l1]
 cases yH xs m.1
 ·have l3:aG gK (xs,m.1,m.2.1,m.2.2.1,m.2.2.2.1,nz xs m++[(m.1,m.2.1,m.2.2.1,m.2.2.2.1,())],(0:Int),())=_:=l2;simp only [cond_false,cT,Option.bind_some,H6,cond_true,l3]
 ·rfl
theorem Fx (xs:bM) (m:jN) (h:xs.length≤1048576):qN xs m.1 m.2.1 m.2.2.1 m.2.2.2.1=some (qQ xs m,()):=by
 have l1:=pP (round:=iR) (n:=xs.length) (fun k=>(xs,m.1,m.2.1,m.2.2.1,m.2.2.2.1,((k:Nat):Int),())) (fun k=>some (.inl (xs,m.1,m.2.1,m.2.2.1,m.2.2.2.1,((k+mA (xs.drop k) m:Nat):Int),())))
  ⟨.inl (xs,m.1,m.2.1,m.2.2.1,m.2.2.2.1,((xs.length:Nat):Int),()),by simp only [iR,ql,aA,cond_false],by rw [List.drop_length];rfl⟩ (fun k hk=>by
   have e:mA (xs.drop k) m=if xs[k].1<m.1 then mA (xs.drop (k+1)) m+1 else 0:=by rw [List.drop_eq_getElem_cons hk,zC]
   simp only [iR,ql,az hk,au,cond_true,aC,fW hk,List.getElem?_eq_getElem hk,Option.bind_some,aF (show k<4611686018427387904 by omega),e]
   by_cases h1:xs[k].1<m.1
   ·rw [ak h1,if_pos h1];exact .inr ⟨rfl,by rw [show k+(mA (xs.drop (k+1)) m+1)=k+1+mA (xs.drop (k+1)) m by omega]⟩
   ·rw [aq h1,if_neg h1];exact .inl ⟨_,rfl,rfl⟩) 0 (Nat.zero_le _)
 have l1:aG iR (xs,m.1,m.2.1,m.2.2.1,m.2.2.2.1,(0:Int),())=_:=l1;rw [List.drop_zero,Nat.zero_add] at l1;have hp:=QP xs m;have afV:G6 xs ((mA xs m:Nat):Int) [(m.1,m.2.1,m.2.2.1,m.2.2.2.1,())]=some (xs.take (mA xs m)++([m]++xs.drop (mA xs m)),()):=by
  unfold G6;rw [au,ak (show ((mA xs m:Nat):Int)≤((xs.length:Nat):Int) by omega),bh (show (xs.length+1)*40≤lim by unfold lim;omega)];rfl
 rw [Hq];unfold qN;simp only [l1,cT,afV,Option.bind_some]
 by_cases h1:mA xs m<xs.length
 ·simp only [dif_pos h1,az h1,au,aC,fW h1,cond_true,List.getElem?_eq_getElem h1,Option.bind_some]
  by_cases h2:xs[mA xs m].1=m.1
  ·rw [ak h2,if_pos h2];rfl
  ·rw [aq h2,if_neg h2];rfl
 ·rw [dif_neg h1,aq (show ¬((mA xs m:Nat):Int)<((xs.length:Nat):Int) by omega)];rfl
end Go.TM
set_option linter.unusedSimpArgs false
set_option linter.unusedVariables false
namespace Go.TM
open Go
theorem sr {α:Type} (p:α→Bool) (xs:List α) {k:Nat} (hk:k<xs.length):(xs.take (k+1)).filter p=(xs.take k).filter p++(if p xs[k]=true then [xs[k]] else []):=by
 rw [List.take_succ_eq_append_getElem hk,List.filter_append,List.filter_cons]
 split<;>rfl
theorem uF {α:Type} (p:α→Bool) (xs:List α) (k:Nat):((xs.take k).filter p).length≤k:=Nat.le_trans (List.length_filter_le _ _) (by rw [List.length_take];omega)
theorem uG:(l:bM)→{out:bM}→gk out out.length→(∀r∈l,vW r)→gk (l.foldl qQ out) (l.foldl qQ out).length
 | [],_,h,_=>h
 |x::l,_,h,hl=>uG l (Jc h (hl x List.mem_cons_self)) (fun r hr=>hl r (List.mem_cons_of_mem _ hr))
theorem q7:gk [] ([]:bM).length:=fun k hk=>by simp at hk
noncomputable def gG (out:bM) (l:bM×Unit):bM:=bif pf l.1 then l.1.foldl qQ out else out
noncomputable def sQ (lists:List (bM×Unit)):bM:=lists.foldl gG []
theorem Jd {out:bM} {l:bM×Unit} (h:gk out out.length) (hl:l.1.length≤1048576):gk (gG out l) (gG out l).length:=by
 unfold gG
 cases hb:pf l.1
 ·exact h
 ·exact uG l.1 h (wC ((rR l.1 hl).2.2.1 hb))
theorem nA:(lists:List (bM×Unit))→{out:bM}→gk out out.length→(∀l∈lists,l.1.length≤1048576)→gk (lists.foldl gG out) (lists.foldl gG out).length
 | [],_,h,_=>h
 |l::lists,_,h,hl=>nA lists (Jd h (hl l List.mem_cons_self)) (fun x hx=>hl x (List.mem_cons_of_mem _ hx))
theorem tz {xs:bM} (h:gk xs xs.length):xs.length≤1048576:=Nat.le_trans (pV xs h).1 (by decide)
theorem QQ {xs:bM} (h:gk xs xs.length):pf xs=true:=(rR xs (tz h)).2.2.2 h
theorem Uv {r:jN} (h:vW r):Cy r=true:=(Ks r).2.2.2 h
theorem Je (lists:List (bM×Unit)) (h:lists.length≤1048576) (hl:∀l∈lists,l.1.length≤1048576):uc lists=some (sQ lists,()):=by
 have l1:=bT (round:=ky) (e:=.inl (sQ lists,())) lists.length (fun k=>(lists,(lists.take k).foldl gG [],((k:Nat):Int),())) (by
  simp only [ky,sG,aA,cond_false,List.take_length];rfl) (fun k hk=>by
  have Ps:=nA (lists.take k) (out:=[]) q7 (fun l tD=>hl l (List.mem_of_mem_take tD));have UW:=hl _ (List.getElem_mem hk);rw [qZ _ _ _ hk];generalize (lists.take k).foldl gG []=out at Ps ⊢;obtain ⟨i1,_,i3⟩:=rR lists[k].1 UW;simp only [ky,sG,az hk,cond_true]
  cases hb:pf lists[k].1
  ·have l2:aG fO (lists,out,((k:Nat):Int),(0:Int),())=some (.inl (lists,out,((k:Nat):Int),())):=by
    rw [jA]
    by_cases h0:(0:Int)<((List.length lists[k].1:Nat):Int)
    ·simp only [fO,mO,au,cond_true,aC,List.getElem?_eq_getElem hk,Option.bind_some,ak h0,i1,hb,cond_false]
    ·simp only [fO,mO,au,cond_true,aC,List.getElem?_eq_getElem hk,Option.bind_some,aq h0,cond_false]
   simp only [l2,cT,Option.bind_some,gG,hb,cond_false,aF (show k<4611686018427387904 by omega)]
  ·have ot:=wC (i3.1 hb);have l2:=bT (round:=fO) (e:=.inl (lists,lists[k].1.foldl qQ out,((k:Nat):Int),())) lists[k].1.length (fun j=>(lists,(lists[k].1.take j).foldl qQ out,((k:Nat):Int),((j:Nat):Int),())) (by
    simp only [fO,mO,au,cond_true,aC,List.getElem?_eq_getElem hk,Option.bind_some,aA,cond_false,List.take_length]) (fun j hj=>by
    have P2:=uG (lists[k].1.take j) Ps (fun r hr=>ot r (List.mem_of_mem_take hr));have hp:=Fv ((lists[k].1.take j).foldl qQ out) lists[k].1[j] (tz P2) (QQ P2) (Uv (ot _ (List.getElem_mem hj)));simp only [fO,mO,au,cond_true,aC,List.getElem?_eq_getElem hk,List.getElem?_eq_getElem hj,Option.bind_some,az hj,i1,hb,hp,aF (show j<4611686018427387904 by omega)];rw [qZ _ _ _ hj])
   have l2:aG fO (lists,out,((k:Nat):Int),(0:Int),())=_:=l2;simp only [l2,cT,Option.bind_some,gG,hb,cond_true,aF (show k<4611686018427387904 by omega)])
 have l1:aG ky (lists,[],(0:Int),())=_:=l1;unfold uc;rw [l1];rfl
theorem Jf (lists:List (bM×Unit)) (h:lists.length≤1048576) (hl:∀l∈lists,l.1.length≤1048576):uj lists=some (sQ lists,()):=by
 have l1:=bT (round:=kG) (e:=.inl (sQ lists,())) lists.length (fun k=>((lists.take k).foldl gG [],lists,((lists.length:Nat):Int),((k:Nat):Int),())) (by
  simp only [kG,sK,aA,cond_false,List.take_length];rfl) (fun k hk=>by
  have Ps:=nA (lists.take k) (out:=[]) q7 (fun l tD=>hl l (List.mem_of_mem_take tD));have UW:=hl _ (List.getElem_mem hk);rw [qZ _ _ _ hk];generalize (lists.take k).foldl gG []=out at Ps ⊢;obtain ⟨_,i2,i3⟩:=rR lists[k].1 UW;simp only [kG,sK,az hk,cond_true,au,aC,List.getElem?_eq_getElem hk,Option.bind_some,i2]
  cases hb:pf lists[k].1
  ·simp only [gG,hb,Bool.not_false,cond_true,cond_false,aF (show k<4611686018427387904 by omega)]
  ·have ot:=wC (i3.1 hb);have l2:=bT (round:=kF) (e:=.inl (lists[k].1.foldl qQ out,lists,((lists.length:Nat):Int),((k:Nat):Int),())) lists[k].1.length (fun j=>((lists[k].1.take j).foldl qQ out,lists,((lists.length:Nat):Int),((k:Nat):Int),lists[k].1,((lists[k].1.length:Nat):Int),((j:Nat):Int),())) (by
    simp only [kF,sJ,aA,cond_false,List.take_length]) (fun j hj=>by
    have P2:=uG (lists[k].1.take j) Ps (fun r hr=>ot r (List.mem_of_mem_take hr));have hp:=Fx ((lists[k].1.take j).foldl qQ out) lists[k].1[j] (tz P2);simp only [kF,sJ,au,cond_true,aC,List.getElem?_eq_getElem hj,Option.bind_some,az hj,hp,aF (show j<4611686018427387904 by omega)];rw [qZ _ _ _ hj])
   have l2:aG kF (out,lists,((lists.length:Nat):Int),((k:Nat):Int),lists[k].1,((lists[k].1.length:Nat):Int),(0:Int),())=_:=l2;simp only [l2,cT,Option.bind_some,gG,hb,Bool.not_true,cond_true,cond_false,aF (show k<4611686018427387904 by omega)])
 have l1:aG kG ([],lists,((lists.length:Nat):Int),(0:Int),())=_:=l1;unfold uj;rw [l1];rfl
noncomputable def uH (xs:bM):bM:=xs.filter fun r=>decide (r.1≤((mg xs:Nat):Int))
theorem Jg (xs:bM) (h:xs.length≤1048576):ud xs=some (uH xs,()):=by
 obtain ⟨a1,_,_⟩:=Ja xs h;have l1:=bT (round:=kz) (e:=.inl (uH xs,())) xs.length (fun k=>(xs,(xs.take k).filter (fun r=>decide (r.1≤((mg xs:Nat):Int))),((mg xs:Nat):Int),((k:Nat):Int),())) (by
  simp only [kz,sH,aA,cond_false,List.take_length];rfl) (fun k hk=>by
  have hb:=uF (fun r:jN=>decide (r.1≤((mg xs:Nat):Int))) xs k;rw [sr _ _ hk];simp only [kz,sH,az hk,au,cond_true,aC,List.getElem?_eq_getElem hk,Option.bind_some,aF (show k<4611686018427387904 by omega),bh (show (((xs.take k).filter (fun r=>decide (r.1≤((mg xs:Nat):Int)))).length+1)*40≤lim by unfold lim;omega)]
  by_cases h1:xs[k].1≤((mg xs:Nat):Int)
  ·rw [ak h1];rfl
  ·rw [aq h1,if_neg (by decide),List.append_nil];rfl)
 have l1:aG kz (xs,[],((mg xs:Nat):Int),(0:Int),())=_:=l1;unfold ud;simp only [a1,Option.bind_some,l1,cT]
theorem Jh (xs:bM) (h:xs.length≤1048576):uk xs=some (uH xs,()):=by
 obtain ⟨_,a1,_⟩:=Ja xs h;have l1:=bT (round:=kH) (e:=.inl (uH xs,())) xs.length (fun k=>(((mg xs:Nat):Int),(xs.take k).filter (fun r=>decide (r.1≤((mg xs:Nat):Int))),xs,((xs.length:Nat):Int),((k:Nat):Int),())) (by
  simp only [kH,sL,aA,cond_false,List.take_length];rfl) (fun k hk=>by
  have hb:=uF (fun r:jN=>decide (r.1≤((mg xs:Nat):Int))) xs k;rw [sr _ _ hk];simp only [kH,sL,az hk,au,cond_true,aC,List.getElem?_eq_getElem hk,Option.bind_some,aF (show k<4611686018427387904 by omega),bh (show (((xs.take k).filter (fun r=>decide (r.1≤((mg xs:Nat):Int)))).length+1)*40≤lim by unfold lim;omega)]
  by_cases h1:xs[k].1≤((mg xs:Nat):Int)
  ·rw [ak h1];rfl
  ·rw [aq h1,if_neg (by decide),List.append_nil];rfl)
 have l1:aG kH (((mg xs:Nat):Int),[],xs,((xs.length:Nat):Int),(0:Int),())=_:=l1;unfold uk;simp only [a1,Option.bind_some,l1,cT]
noncomputable def gl (xs:List gj) (c:Int) (d:Int×Unit):bM×Unit:=((rP (jo xs c d.1)).2.2.2.1,())
noncomputable def rT (xs:List gj) (c:Int) (ms:gL) (id:Int):bM:=uH (sQ ((dR xs c ms id).map (gl xs c)))
noncomputable def tC (xs:List gj) (c:Int) (ms:gL) (id heard:Int):bM:=
 match jo xs c id with
 |none=>[]
 |some gW=>bif decide (gW.2.2.1=0) then [] else (rT xs c ms id).filter fun r=>decide (heard<r.1)
theorem uI (xs:List gj) (c:Int) (h:kZ xs) (d:Int×Unit):(gl xs c d).1.length≤1048576:=by
 have Nl:=h.len;unfold gl
 cases hb:jo xs c d.1 with
 |none=>exact Nat.zero_le _
 |some b=>
  obtain ⟨k,hk,rfl⟩:=List.mem_iff_getElem.1 (zA hb).1;exact h.at hk
theorem Mq (bj:Int) (bl:gL) (xs:List gj) (id heard:Int) (h0:bl.length≤1048576) (h:kZ xs):qW bj bl xs id heard=some (tC xs bj bl id heard,()):=by
 have Nl:=h.len;obtain ⟨t1,t2,t3⟩:=pG bj bl xs id h0 h;have hw:(dR xs bj bl id).length≤1048576:=by omega
 have hls:((dR xs bj bl id).map (gl xs bj)).length≤1048576:=by rw [List.length_map];exact hw
 have Uw:∀l∈(dR xs bj bl id).map (gl xs bj),l.1.length≤1048576:=fun l hl=>by
  obtain ⟨d,_,rfl⟩:=List.mem_map.1 hl;exact uI xs bj h d
 have hu:(sQ ((dR xs bj bl id).map (gl xs bj))).length≤1048576:=tz (nA _ (out:=[]) q7 Uw);have hwl:(rT xs bj bl id).length≤1048576:=Nat.le_trans (List.length_filter_le _ _) hu;unfold qW tC;rw [rQ _ _ _ _ h]
 cases hm:jo xs bj id with
 |none=>rfl
 |some gW=>
  by_cases ho:gW.2.2.1=0
  ·simp only [rP,Option.bind_some,Bool.not_true,cond_false,Uq ho,cond_true]
  simp only [rP,Option.bind_some,Bool.not_true,cond_false,Ur ho,t1,t2];have l1:=bT (round:=j9) (e:=.inl (heard,[],(dR xs bj bl id).map (gl xs bj),())) (dR xs bj bl id).length (fun k=>(xs,heard,bj,bl,[],((dR xs bj bl id).take k).map (gl xs bj),dR xs bj bl id,((k:Nat):Int),())) (by
   simp only [j9,nY,aA,cond_false,List.take_length]) (fun k hk=>by
   simp only [j9,nY,az hk,au,cond_true,aC,fW hk,List.getElem?_eq_getElem hk,Option.bind_some,rQ _ _ _ _ h,List.length_map,List.length_take,Nat.min_eq_left (Nat.le_of_lt hk),bh (show (k+1)*24≤lim by unfold lim;omega),aF (show k<4611686018427387904 by omega)];rw [List.take_succ_eq_append_getElem hk,List.map_append];rfl)
  have l1:aG j9 (xs,heard,bj,bl,[],[],dR xs bj bl id,(0:Int),())=_:=l1;have l2:=bT (round:=lV) (e:=.inl ((rT xs bj bl id).filter (fun r=>decide (heard<r.1)),())) (rT xs bj bl id).length (fun k=>(heard,((rT xs bj bl id).take k).filter (fun r=>decide (heard<r.1)),rT xs bj bl id,((k:Nat):Int),())) (by
   simp only [lV,ug,aA,cond_false,List.take_length]) (fun k hk=>by
   have hb:=uF (fun r:jN=>decide (heard<r.1)) (rT xs bj bl id) k;rw [sr _ _ hk];simp only [lV,ug,az hk,au,cond_true,aC,fW hk,List.getElem?_eq_getElem hk,Option.bind_some,aF (show k<4611686018427387904 by omega),bh (show ((((rT xs bj bl id).take k).filter (fun r=>decide (heard<r.1))).length+1)*40≤lim by unfold lim;omega)]
   by_cases h1:heard<(rT xs bj bl id)[k].1
   ·rw [ak h1];rfl
   ·rw [aq h1,if_neg (by decide),List.append_nil];rfl)
  have l2:aG lV (heard,[],uH (sQ ((dR xs bj bl id).map (gl xs bj))),(0:Int),())=_:=l2;simp only [l1,cT,Option.bind_some,Je _ hls Uw,Jg _ hu,l2]
theorem Mr (bj:Int) (bl:gL) (xs:List gj) (id heard:Int) (h0:bl.length≤1048576) (h:kZ xs):qX bj bl xs id heard=some (tC xs bj bl id heard,()):=by
 have Nl:=h.len;obtain ⟨t1,t2,t3⟩:=pG bj bl xs id h0 h;have hw:(dR xs bj bl id).length≤1048576:=by omega
 have hls:((dR xs bj bl id).map (gl xs bj)).length≤1048576:=by rw [List.length_map];exact hw
 have Uw:∀l∈(dR xs bj bl id).map (gl xs bj),l.1.length≤1048576:=fun l hl=>by
  obtain ⟨d,_,rfl⟩:=List.mem_map.1 hl;exact uI xs bj h d
 have hu:(sQ ((dR xs bj bl id).map (gl xs bj))).length≤1048576:=tz (nA _ (out:=[]) q7 Uw);have hwl:(rT xs bj bl id).length≤1048576:=Nat.le_trans (List.length_filter_le _ _) hu;unfold qX tC;rw [uA _ _ _ _ h]
 cases hm:jo xs bj id with
 |none=>rfl
 |some gW=>
  by_cases ho:gW.2.2.1=0
  ·simp only [rP,Option.bind_some,Bool.not_true,cond_false,Uq ho,cond_true]
  simp only [rP,Option.bind_some,Bool.not_true,cond_false,Ur ho,t1,t2];have l1:=bT (round:=lZ) (e:=.inl (heard,(dR xs bj bl id).map (gl xs bj),())) (dR xs bj bl id).length (fun k=>(xs,heard,bj,bl,((dR xs bj bl id).take k).map (gl xs bj),dR xs bj bl id,(((dR xs bj bl id).length:Nat):Int),((k:Nat):Int),())) (by
   simp only [lZ,um,aA,cond_false,List.take_length]) (fun k hk=>by
   simp only [lZ,um,az hk,au,cond_true,aC,fW hk,List.getElem?_eq_getElem hk,Option.bind_some,uA _ _ _ _ h,List.length_map,List.length_take,Nat.min_eq_left (Nat.le_of_lt hk),bh (show (k+1)*24≤lim by unfold lim;omega),aF (show k<4611686018427387904 by omega)];rw [List.take_succ_eq_append_getElem hk,List.map_append];rfl)
  have l1:aG lZ (xs,heard,bj,bl,[],dR xs bj bl id,(((dR xs bj bl id).length:Nat):Int),(0:Int),())=_:=l1;have l2:=bT (round:=l9) (e:=.inl ((rT xs bj bl id).filter (fun r=>decide (heard<r.1)),())) (rT xs bj bl id).length (fun k=>(heard,((rT xs bj bl id).take k).filter (fun r=>decide (heard<r.1)),rT xs bj bl id,(((rT xs bj bl id).length:Nat):Int),((k:Nat):Int),())) (by
   simp only [l9,uo,aA,cond_false,List.take_length]) (fun k hk=>by
   have hb:=uF (fun r:jN=>decide (heard<r.1)) (rT xs bj bl id) k;rw [sr _ _ hk];simp only [l9,uo,az hk,au,cond_true,aC,fW hk,List.getElem?_eq_getElem hk,Option.bind_some,aF (show k<4611686018427387904 by omega),bh (show ((((rT xs bj bl id).take k).filter (fun r=>decide (heard<r.1))).length+1)*40≤lim by unfold lim;omega)]
   by_cases h1:heard<(rT xs bj bl id)[k].1
   ·rw [ak h1];rfl
   ·rw [aq h1,if_neg (by decide),List.append_nil];rfl)
  have l2:aG l9 (heard,[],uH (sQ ((dR xs bj bl id).map (gl xs bj))),(((uH (sQ ((dR xs bj bl id).map (gl xs bj)))).length:Nat):Int),(0:Int),())=_:=l2;simp only [l1,cT,Option.bind_some,Jf _ hls Uw,Jh _ hu,l2]
theorem Ms (bj:Int) (bl:gL) (xs:List gj) (id heard:Int) (h0:bl.length≤1048576) (h:kZ xs):qW bj bl xs id heard=some (tC xs bj bl id heard,())∧qX bj bl xs id heard=some (tC xs bj bl id heard,()):=⟨Mq _ _ _ _ _ h0 h,Mr _ _ _ _ _ h0 h⟩
theorem zD {α:Type} (f:α→Nat) (p:α→Bool):(xs:List α)→wl f (xs.filter p)≤wl f xs
 | []=>Nat.le_refl _
 |x::xs=>by
  have:=zD f p xs;rw [List.filter_cons]
  split
  ·rw [mX,mX];omega
  ·rw [mX];omega
theorem Mt (xs:List gj) (c:Int) (ms:gL) (id:Int) (h:kZ xs):(rT xs c ms id).length≤60∧wl bJ (rT xs c ms id)≤3600:=by
 have Nl:=h.len;have Uw:∀l∈(dR xs c ms id).map (gl xs c),l.1.length≤1048576:=fun l hl=>by
  obtain ⟨d,_,rfl⟩:=List.mem_map.1 hl;exact uI xs c h d
 have:=pV _ (nA _ (out:=[]) q7 Uw);unfold rT uH;exact ⟨Nat.le_trans (List.length_filter_le _ _) this.1,Nat.le_trans (zD _ _ _) this.2⟩
theorem Ji (xs:List gj) (c:Int) (ms:gL) (id heard:Int) (h:kZ xs):(tC xs c ms id heard).length≤60∧wl bJ (tC xs c ms id heard)≤3600:=by
 have Nl:=h.len;have:=Mt xs c ms id h;unfold tC
 cases jo xs c id with
 |none=>exact ⟨Nat.zero_le _,Nat.zero_le _⟩
 |some gW=>
  show (bif decide (gW.2.2.1=0) then [] else (rT xs c ms id).filter fun r=>decide (heard<r.1)).length≤60∧wl bJ (bif decide (gW.2.2.1=0) then [] else (rT xs c ms id).filter fun r=>decide (heard<r.1))≤3600
  cases decide (gW.2.2.1=0)
  ·exact ⟨Nat.le_trans (List.length_filter_le _ _) this.1,Nat.le_trans (zD _ _ _) this.2⟩
  ·exact ⟨Nat.zero_le _,Nat.zero_le _⟩
end Go.TM
set_option linter.unusedSimpArgs false
set_option linter.unusedVariables false
namespace Go.TM
open Go
noncomputable def ss (c:Int) (ms:List (Int×Unit)) (xs:List gj):Bool:=ms.all fun m=>(jo xs c m.1).isSome
end Go.TM
set_option linter.unusedSimpArgs false
set_option linter.unusedVariables false
namespace Go.TM
open Go
theorem mQ (c:Int) (xs:gL) (h:xs.length≤1048576):bw c xs=some (c,xs,()):=by
 unfold bw;rw [nw _ h];rfl
end Go.TM
set_option linter.unusedSimpArgs false
set_option linter.unusedVariables false
namespace Go.TM
open Go
theorem mR (b:gj) (h:b.2.2.2.1.length≤1048576):iD b.1 b.2.1 b.2.2.1 b.2.2.2.1=some b∧kr b.1 b.2.1 b.2.2.1 b.2.2.2.1=some b:=by
 constructor
 ·unfold iD;rw [bh (show (0+b.2.2.2.1.length)*40≤lim by unfold lim;omega)];rfl
 ·unfold kr;rw [vX _ h];rfl
theorem zE (xs:List gj) (h:xs.length+wl aI xs≤1048576):eX xs=some (xs,()):=by
 have hl:=bT (round:=ch) (e:=.inl (xs,())) xs.length (fun k=>(xs,xs.take k,((k:Nat):Int),())) (by
  simp only [ch,eV,aA,cond_false,List.take_length]) (fun k hk=>by
  simp only [ch,eV,az hk,au,cond_true,aC,List.getElem?_eq_getElem hk,Option.bind_some,(mR xs[k] (yF xs hk h)).1,List.length_take,Nat.min_eq_left (Nat.le_of_lt hk),bh (show (k+1)*48≤lim by unfold lim;omega),aF (show k<4611686018427387904 by omega)];rw [List.take_succ_eq_append_getElem hk])
 have hl:aG ch (xs,[],(0:Int),())=_:=hl;unfold eX;rw [hl];rfl
theorem zF (xs:List gj) (h:xs.length+wl aI xs≤1048576):lY xs=some (xs,()):=by
 have hl:=bT (round:=eY) (e:=.inl (xs,())) xs.length (fun k=>(xs.take k,xs,((xs.length:Nat):Int),((k:Nat):Int),())) (by
  simp only [eY,mm,aA,cond_false,List.take_length]) (fun k hk=>by
  simp only [eY,mm,az hk,au,cond_true,aC,List.getElem?_eq_getElem hk,Option.bind_some,(mR xs[k] (yF xs hk h)).2,List.length_take,Nat.min_eq_left (Nat.le_of_lt hk),bh (show (k+1)*48≤lim by unfold lim;omega),aF (show k<4611686018427387904 by omega)];rw [List.take_succ_eq_append_getElem hk])
 have hl:aG eY ([],xs,((xs.length:Nat):Int),(0:Int),())=_:=hl;unfold lY;rw [hl];rfl
theorem Ku (d:js) (h:uE d≤1048576):ek d.1 d.2.1 d.2.2.1 d.2.2.2.1 d.2.2.2.2.1 d.q.1 d.q.2.1 d.q.2.2.1 d.q.2.2.2.1 d.q.2.2.2.2.1 d.q.q.1 d.q.q.2.1 d.q.q.2.2.1 d.q.q.2.2.2.1 d.q.q.2.2.2.2.1 d.q.q.q.1 d.q.q.q.2.1 d.q.q.q.2.2.1 d.q.q.q.2.2.2.1 d.q.q.q.2.2.2.2.1 d.q.q.q.q.1 d.q.q.q.q.2.1 d.q.q.q.q.2.2.1 d.q.q.q.q.2.2.2.1=some d∧kt d.1 d.2.1 d.2.2.1 d.2.2.2.1 d.2.2.2.2.1 d.q.1 d.q.2.1 d.q.2.2.1 d.q.2.2.2.1 d.q.2.2.2.2.1 d.q.q.1 d.q.q.2.1 d.q.q.2.2.1 d.q.q.2.2.2.1 d.q.q.2.2.2.2.1 d.q.q.q.1 d.q.q.q.2.1 d.q.q.q.2.2.1 d.q.q.q.2.2.2.1 d.q.q.q.2.2.2.2.1 d.q.q.q.q.1 d.q.q.q.q.2.1 d.q.q.q.q.2.2.1 d.q.q.q.q.2.2.2.1=some d:=by
 have h0:=h;unfold uE at h0;have p:lT d.2.2.1 d.2.2.2.1 d.2.2.2.2.1 d.q.1 d.q.2.1 d.q.2.2.1 d.q.2.2.2.1 d.q.2.2.2.2.1 d.q.q.1 d.q.q.2.1 d.q.q.2.2.1 d.q.q.2.2.2.1 d.q.q.2.2.2.2.1 d.q.q.q.1 d.q.q.q.2.1 d.q.q.q.2.2.1=some (d.2.2.1,d.2.2.2.1,d.2.2.2.2.1,d.q.1,d.q.2.1,d.q.2.2.1,d.q.2.2.2.1,d.q.2.2.2.2.1,d.q.q.1,d.q.q.2.1,d.q.q.2.2.1,d.q.q.2.2.2.1,d.q.q.2.2.2.2.1,d.q.q.q.1,d.q.q.q.2.1,d.q.q.q.2.2.1,())∧kE d.2.2.1 d.2.2.2.1 d.2.2.2.2.1 d.q.1 d.q.2.1 d.q.2.2.1 d.q.2.2.2.1 d.q.2.2.2.2.1 d.q.q.1 d.q.q.2.1 d.q.q.2.2.1 d.q.q.2.2.2.1 d.q.q.2.2.2.2.1 d.q.q.q.1 d.q.q.q.2.1 d.q.q.q.2.2.1=some (d.2.2.1,d.2.2.2.1,d.2.2.2.2.1,d.q.1,d.q.2.1,d.q.2.2.1,d.q.2.2.2.1,d.q.2.2.2.2.1,d.q.q.1,d.q.q.2.1,d.q.q.2.2.1,d.q.q.2.2.2.1,d.q.q.2.2.2.2.1,d.q.q.q.1,d.q.q.q.2.1,d.q.q.q.2.2.1,()):=Ao d.2.2.1 d.2.2.2.1 d.2.2.2.2.1 d.q.1 d.q.2.1 d.q.2.2.1 d.q.2.2.2.1 d.q.2.2.2.2.1 d.q.q.1 d.q.q.2.1 d.q.q.2.2.1 d.q.q.2.2.2.1 d.q.q.2.2.2.2.1 d.q.q.q.1 d.q.q.q.2.1 d.q.q.q.2.2.1 (by omega)
 constructor
 ·unfold ek;simp only [p.1,zE d.q.q.q.q.2.2.1 (by omega),AL d.q.q.q.q.2.2.2.1 (by omega),Option.bind_some,bh (show (0+(d.q.q.q.q.2.1).length)*8≤lim by unfold lim;omega),cond_true,List.nil_append]
 ·unfold kt;simp only [p.2,zF d.q.q.q.q.2.2.1 (by omega),AM d.q.q.q.q.2.2.2.1 (by omega),mQ d.q.q.q.q.1 d.q.q.q.q.2.1 (by omega),Option.bind_some]
def Fy:js:=(0,false,0,0,[],[],[],[],0,0,0,0,0,0,0,0,0,[],0,0,0,[],[],[],())
end Go.TM
set_option linter.unusedSimpArgs false
set_option linter.unusedVariables false
namespace Go.TM
open Go
end Go.TM
set_option linter.unusedSimpArgs false
set_option linter.unusedVariables false
namespace Go.TM
open Go
end Go.TM
set_option linter.unusedSimpArgs false
set_option linter.unusedVariables false
namespace Go.TM
open Go
def jP (c:Int) (ms:gL) (l:bM):List AN:=l.map fun x=>(1,c,ms,x.1,x.2.1,x.2.2.1,x.2.2.2.1,[],())
theorem wD (c:Int) (ms:gL) (l:bM):(jP c ms l).length=l.length:=by simp [jP]
theorem Kv (c:Int) (ms:gL):(l:bM)→wl ax (jP c ms l)=l.length*(ms.length+wl dk ms)+wl bJ l
 | []=>by simp [jP,vL]
 |x::l=>by
  have ih:=Kv c ms l;have e:jP c ms (x::l)=(1,c,ms,x.1,x.2.1,x.2.2.1,x.2.2.2.1,[],())::jP c ms l:=rfl;rw [e,mX,ih,mX,List.length_cons,Nat.add_mul];have e1:ax ((1,c,ms,x.1,x.2.1,x.2.2.1,x.2.2.2.1,[],()):AN)=(ms.length+wl dk ms)+ByteArray.size x.2.2.2.1+0:=rfl;have e2:bJ x=ByteArray.size x.2.2.2.1:=rfl;omega
theorem pH (c:Int) (xs:gL) (h:xs.length≤1048576):aY c xs=some (c,xs,()):=by
 unfold aY;rw [bh (show (0+xs.length)*8≤lim by unfold lim;omega)];rfl
theorem Hs {c:Int} {ms:gL} {l:bM} {lg:List AN} {k:Nat} (hk:k<l.length):lg++jP c ms (l.take (k+1))=(lg++jP c ms (l.take k))++[(1,c,ms,l[k].1,l[k].2.1,l[k].2.2.1,l[k].2.2.2.1,[],())]:=by
 rw [List.take_succ_eq_append_getElem hk,List.append_assoc]
 congr 1
 unfold jP;rw [List.map_append];rfl
end Go.TM
set_option linter.unusedSimpArgs false
set_option linter.unusedVariables false
namespace Go.TM
open Go
theorem Fz (c:Int) (xs:List (Int×Unit)) (id:Int) (h:xs.length≤1048576) (hr:dN c xs=some (true,())) (hm:(id,())∈xs):eo id c xs=some (id,c,xs,[],[],[],0,0,0,0,0,0,0,0,0,[],true,()):=by
 unfold eo;simp only [hr,wz _ _ h,ak hm,Option.bind_some,Bool.not_true,cond_false,bh (show (0+xs.length)*8≤lim by unfold lim;omega),cond_true,List.nil_append]
theorem FA (c:Int) (xs:List (Int×Unit)) (id:Int) (h:xs.length≤1048576) (hr:fZ c xs=some (true,())) (hm:(id,())∈xs):hC id c xs=some (id,c,xs,[],[],[],0,0,0,0,0,0,0,0,0,[],true,()):=by
 unfold hC bw;simp only [hr,Fs _ _ h,ak hm,Option.bind_some,Bool.not_true,cond_false,nw xs h]
end Go.TM
set_option linter.unusedSimpArgs false
set_option linter.unusedVariables false
namespace Go.TM
open Go
theorem yI (xs:List gj) (h:kZ xs):eX xs=some (xs,()):=by
 have Nl:=h.len;have hl:=bT (round:=ch) (e:=.inl (xs,())) xs.length (fun k=>(xs,xs.take k,((k:Nat):Int),())) (by
  simp only [ch,eV,aA,cond_false,List.take_length]) (fun k hk=>by
  simp only [ch,eV,az hk,au,cond_true,aC,List.getElem?_eq_getElem hk,Option.bind_some,(mR xs[k] (h.at hk)).1,List.length_take,Nat.min_eq_left (Nat.le_of_lt hk),bh (show (k+1)*48≤lim by unfold lim;omega),aF (show k<4611686018427387904 by omega)];rw [List.take_succ_eq_append_getElem hk])
 have hl:aG ch (xs,[],(0:Int),())=_:=hl;unfold eX;rw [hl];rfl
theorem Ht (xs:List EvR) {k:Nat} (hk:k<xs.length) (h:xs.length+wl ax xs≤4194304):xs[k].2.2.1.length≤4194304∧xs[k].q.2.2.1.length≤4194304:=by
 have hw:=p9 ax xs xs[k] (List.getElem_mem hk);have:ax xs[k]=(List.length xs[k].2.2.1+wl dk xs[k].2.2.1)+ByteArray.size xs[k].q.2.1+(List.length xs[k].q.2.2.1+wl dk xs[k].q.2.2.1):=rfl;omega
theorem zG (xs:List EvR) (h:xs.length+wl ax xs≤4194304):fH xs=some (xs,()):=by
 have hl:=bT (round:=cw) (e:=.inl (xs,())) xs.length (fun k=>(xs,xs.take k,((k:Nat):Int),())) (by
  simp only [cw,fC,aA,cond_false,List.take_length]) (fun k hk=>by
  obtain ⟨e1,e2⟩:=Ht xs hk h;simp only [cw,fC,az hk,au,cond_true,aC,List.getElem?_eq_getElem hk,Option.bind_some,List.length_take,Nat.min_eq_left (Nat.le_of_lt hk),bh (show (0+xs[k].2.2.1.length)*8≤lim by unfold lim;omega),bh (show (0+xs[k].q.2.2.1.length)*8≤lim by unfold lim;omega),bh (show (k+1)*104≤lim by unfold lim;omega),aF (show k<4611686018427387904 by omega),List.nil_append];rw [List.take_succ_eq_append_getElem hk])
 have hl:aG cw (xs,[],(0:Int),())=_:=hl;unfold fH;rw [hl];rfl
theorem Hu (d:js) (h1:zB (bL d)≤1048576) (h2:d.q.q.q.q.2.1.length≤1048576) (h3:kZ d.q.q.q.q.2.2.1) (h4:d.q.q.q.q.2.2.2.1.length+wl ax d.q.q.q.q.2.2.2.1≤4194304):ek d.1 d.2.1 d.2.2.1 d.2.2.2.1 d.2.2.2.2.1 d.q.1 d.q.2.1 d.q.2.2.1 d.q.2.2.2.1 d.q.2.2.2.2.1 d.q.q.1 d.q.q.2.1 d.q.q.2.2.1 d.q.q.2.2.2.1 d.q.q.2.2.2.2.1 d.q.q.q.1 d.q.q.q.2.1 d.q.q.q.2.2.1 d.q.q.q.2.2.2.1 d.q.q.q.2.2.2.2.1 d.q.q.q.q.1 d.q.q.q.q.2.1 d.q.q.q.q.2.2.1 d.q.q.q.q.2.2.2.1=some d:=by
 have p:lT d.2.2.1 d.2.2.2.1 d.2.2.2.2.1 d.q.1 d.q.2.1 d.q.2.2.1 d.q.2.2.2.1 d.q.2.2.2.2.1 d.q.q.1 d.q.q.2.1 d.q.q.2.2.1 d.q.q.2.2.2.1 d.q.q.2.2.2.2.1 d.q.q.q.1 d.q.q.q.2.1 d.q.q.q.2.2.1=some (d.2.2.1,d.2.2.2.1,d.2.2.2.2.1,d.q.1,d.q.2.1,d.q.2.2.1,d.q.2.2.2.1,d.q.2.2.2.2.1,d.q.q.1,d.q.q.2.1,d.q.q.2.2.1,d.q.q.2.2.2.1,d.q.q.2.2.2.2.1,d.q.q.q.1,d.q.q.q.2.1,d.q.q.q.2.2.1,())∧kE d.2.2.1 d.2.2.2.1 d.2.2.2.2.1 d.q.1 d.q.2.1 d.q.2.2.1 d.q.2.2.2.1 d.q.2.2.2.2.1 d.q.q.1 d.q.q.2.1 d.q.q.2.2.1 d.q.q.2.2.2.1 d.q.q.2.2.2.2.1 d.q.q.q.1 d.q.q.q.2.1 d.q.q.q.2.2.1=some (d.2.2.1,d.2.2.2.1,d.2.2.2.2.1,d.q.1,d.q.2.1,d.q.2.2.1,d.q.2.2.2.1,d.q.2.2.2.2.1,d.q.q.1,d.q.q.2.1,d.q.q.2.2.1,d.q.q.2.2.2.1,d.q.q.2.2.2.2.1,d.q.q.q.1,d.q.q.q.2.1,d.q.q.q.2.2.1,()):=Ao d.2.2.1 d.2.2.2.1 d.2.2.2.2.1 d.q.1 d.q.2.1 d.q.2.2.1 d.q.2.2.2.1 d.q.2.2.2.2.1 d.q.q.1 d.q.q.2.1 d.q.q.2.2.1 d.q.q.2.2.2.1 d.q.q.2.2.2.2.1 d.q.q.q.1 d.q.q.q.2.1 d.q.q.q.2.2.1 h1;unfold ek;simp only [p.1,yI d.q.q.q.q.2.2.1 h3,zG d.q.q.q.q.2.2.2.1 h4,Option.bind_some,bh (show (0+(d.q.q.q.q.2.1).length)*8≤lim by unfold lim;omega),cond_true,List.nil_append]
noncomputable def Hv (d:js):List AN:=[(2,d.2.2.2.1,d.2.2.2.2.1,0,0,0,ByteArray.empty,dR d.q.q.q.q.2.2.1 d.q.q.q.q.1 d.q.q.q.q.2.1 d.1,())]++jP d.2.2.2.1 d.2.2.2.2.1 (tC d.q.q.q.q.2.2.1 d.q.q.q.q.1 d.q.q.q.q.2.1 d.1 d.q.q.2.1)
noncomputable def Eb (d:js):List AN:=bif decide (0<d.q.q.q.2.2.2.2.1) then d.q.q.q.q.2.2.2.1++Hv d else d.q.q.q.q.2.2.2.1
noncomputable def fD (d:js):js:=(d.1,d.2.1,d.1,d.q.q.q.q.1,d.q.q.q.q.2.1,[],d.q.2.1,d.q.2.2.1,0,0,0,0,0,0,0,0,0,[],d.q.q.q.2.2.2.1,d.q.q.q.q.1,0,[],[],Eb d++[(3,d.q.q.q.q.1,d.q.q.q.q.2.1,0,0,0,ByteArray.empty,d.q.q.q.q.2.1,())],())
def CD (d:js):List AN:=d.q.q.q.q.2.2.2.1
def m8 (d:js) (l:List AN):js:=(d.1,d.2.1,d.2.2.1,d.2.2.2.1,d.2.2.2.2.1,d.q.1,d.q.2.1,d.q.2.2.1,d.q.2.2.2.1,d.q.2.2.2.2.1,d.q.q.1,d.q.q.2.1,d.q.q.2.2.1,d.q.q.2.2.2.1,d.q.q.2.2.2.2.1,d.q.q.q.1,d.q.q.q.2.1,d.q.q.q.2.2.1,d.q.q.q.2.2.2.1,d.q.q.q.2.2.2.2.1,d.q.q.q.q.1,d.q.q.q.q.2.1,d.q.q.q.q.2.2.1,l,())
theorem FB (d:js) (c:Int) (ms:gL) (l:bM) (hr:ms.length≤1048576) (hl:l.length≤1048576) (hg:d.q.q.q.q.2.2.2.1.length≤1048577):aG dn (d.1,d.2.1,d.2.2.1,d.2.2.2.1,d.2.2.2.2.1,d.q.1,d.q.2.1,d.q.2.2.1,d.q.2.2.2.1,d.q.2.2.2.2.1,d.q.q.1,d.q.q.2.1,d.q.q.2.2.1,d.q.q.2.2.2.1,d.q.q.2.2.2.2.1,d.q.q.q.1,d.q.q.q.2.1,d.q.q.q.2.2.1,d.q.q.q.2.2.2.1,d.q.q.q.2.2.2.2.1,d.q.q.q.q.1,d.q.q.q.q.2.1,d.q.q.q.q.2.2.1,d.q.q.q.q.2.2.2.1,c,ms,l,(0:Int),())=some (.inl (m8 d (d.q.q.q.q.2.2.2.1++jP c ms l))):=by
 have l1:=bT (round:=dn) (e:=.inl (m8 d (d.q.q.q.q.2.2.2.1++jP c ms l))) l.length (fun k=>(d.1,d.2.1,d.2.2.1,d.2.2.2.1,d.2.2.2.2.1,d.q.1,d.q.2.1,d.q.2.2.1,d.q.2.2.2.1,d.q.2.2.2.2.1,d.q.q.1,d.q.q.2.1,d.q.q.2.2.1,d.q.q.2.2.2.1,d.q.q.2.2.2.2.1,d.q.q.q.1,d.q.q.q.2.1,d.q.q.q.2.2.1,d.q.q.q.2.2.2.1,d.q.q.q.2.2.2.2.1,d.q.q.q.q.1,d.q.q.q.q.2.1,d.q.q.q.q.2.2.1,d.q.q.q.q.2.2.2.1++jP c ms (l.take k),c,ms,l,((k:Nat):Int),())) (by
  simp only [dn,nh,aA,cond_false,List.take_length,m8]) (fun k hk=>by
  have hlen:(d.q.q.q.q.2.2.2.1++jP c ms (l.take k)).length≤1048577+1048576:=by
   rw [List.length_append,wD,List.length_take];omega
  simp only [dn,nh,az hk,au,cond_true,aC,fW hk,List.getElem?_eq_getElem hk,Option.bind_some,pH _ _ hr,bh (show ((d.q.q.q.q.2.2.2.1++jP c ms (l.take k)).length+1)*104≤lim by unfold lim;omega),aF (show k<4611686018427387904 by omega)];rw [Hs hk])
 have l1:aG dn (d.1,d.2.1,d.2.2.1,d.2.2.2.1,d.2.2.2.2.1,d.q.1,d.q.2.1,d.q.2.2.1,d.q.2.2.2.1,d.q.2.2.2.2.1,d.q.q.1,d.q.q.2.1,d.q.q.2.2.1,d.q.q.2.2.2.1,d.q.q.2.2.2.2.1,d.q.q.q.1,d.q.q.q.2.1,d.q.q.q.2.2.1,d.q.q.q.2.2.2.1,d.q.q.q.2.2.2.2.1,d.q.q.q.q.1,d.q.q.q.q.2.1,d.q.q.q.q.2.2.1,d.q.q.q.q.2.2.2.1++jP c ms (l.take 0),c,ms,l,(0:Int),())=_:=l1;rw [show jP c ms (l.take 0)=[] from rfl,List.append_nil] at l1;exact l1
theorem Mv (d:js) (l:bM) (hr:d.2.2.2.2.1.length≤1048576) (hl:l.length≤1048576) (hg:d.q.q.q.q.2.2.2.1.length≤1048577):ik d.1 d.2.1 d.2.2.1 d.2.2.2.1 d.2.2.2.2.1 d.q.1 d.q.2.1 d.q.2.2.1 d.q.2.2.2.1 d.q.2.2.2.2.1 d.q.q.1 d.q.q.2.1 d.q.q.2.2.1 d.q.q.2.2.2.1 d.q.q.2.2.2.2.1 d.q.q.q.1 d.q.q.q.2.1 d.q.q.q.2.2.1 d.q.q.q.2.2.2.1 d.q.q.q.2.2.2.2.1 d.q.q.q.q.1 d.q.q.q.q.2.1 d.q.q.q.q.2.2.1 d.q.q.q.q.2.2.2.1 l=some (m8 d (d.q.q.q.q.2.2.2.1++jP d.2.2.2.1 d.2.2.2.2.1 l)):=by
 have l1:=bT (round:=eZ) (e:=.inl (m8 d (d.q.q.q.q.2.2.2.1++jP d.2.2.2.1 d.2.2.2.2.1 l))) l.length (fun k=>(d.1,d.2.1,d.2.2.1,d.2.2.2.1,d.2.2.2.2.1,d.q.1,d.q.2.1,d.q.2.2.1,d.q.2.2.2.1,d.q.2.2.2.2.1,d.q.q.1,d.q.q.2.1,d.q.q.2.2.1,d.q.q.2.2.2.1,d.q.q.2.2.2.2.1,d.q.q.q.1,d.q.q.q.2.1,d.q.q.q.2.2.1,d.q.q.q.2.2.2.1,d.q.q.q.2.2.2.2.1,d.q.q.q.q.1,d.q.q.q.q.2.1,d.q.q.q.q.2.2.1,d.q.q.q.q.2.2.2.1++jP d.2.2.2.1 d.2.2.2.2.1 (l.take k),l,((List.length l:Nat):Int),((k:Nat):Int),())) (by
  simp only [eZ,mn,aA,cond_false,List.take_length,m8]) (fun k hk=>by
  have hlen:(d.q.q.q.q.2.2.2.1++jP d.2.2.2.1 d.2.2.2.2.1 (l.take k)).length≤1048577+1048576:=by
   rw [List.length_append,wD,List.length_take];omega
  simp only [eZ,mn,az hk,au,cond_true,aC,List.getElem?_eq_getElem hk,Option.bind_some,mQ _ _ hr,bh (show ((d.q.q.q.q.2.2.2.1++jP d.2.2.2.1 d.2.2.2.2.1 (l.take k)).length+1)*104≤lim by unfold lim;omega),aF (show k<4611686018427387904 by omega)];rw [Hs hk])
 have l1:aG eZ (d.1,d.2.1,d.2.2.1,d.2.2.2.1,d.2.2.2.2.1,d.q.1,d.q.2.1,d.q.2.2.1,d.q.2.2.2.1,d.q.2.2.2.2.1,d.q.q.1,d.q.q.2.1,d.q.q.2.2.1,d.q.q.2.2.2.1,d.q.q.2.2.2.2.1,d.q.q.q.1,d.q.q.q.2.1,d.q.q.q.2.2.1,d.q.q.q.2.2.2.1,d.q.q.q.2.2.2.2.1,d.q.q.q.q.1,d.q.q.q.q.2.1,d.q.q.q.q.2.2.1,d.q.q.q.q.2.2.2.1++jP d.2.2.2.1 d.2.2.2.2.1 (l.take 0),l,((List.length l:Nat):Int),(0:Int),())=_:=l1;rw [show jP d.2.2.2.1 d.2.2.2.2.1 (l.take 0)=[] from rfl,List.append_nil] at l1;unfold ik;rw [l1];rfl
theorem Ec (xs:List gj) (c:Int) (ms:gL) (id heard:Int) (h:kZ xs):(tC xs c ms id heard).length≤60∧wl bJ (tC xs c ms id heard)≤3600:=Ji xs c ms id heard h
theorem yJ (d:js) (hr:wX d.q.q.q.q.1 d.q.q.q.q.2.1) (hm:(d.1,())∈d.q.q.q.q.2.1) (h3:kZ d.q.q.q.q.2.2.1) (h4:d.2.2.2.2.1.length≤1048576) (hg:d.q.q.q.q.2.2.2.1.length≤1048576):et d.1 d.2.1 d.2.2.1 d.2.2.2.1 d.2.2.2.2.1 d.q.1 d.q.2.1 d.q.2.2.1 d.q.2.2.2.1 d.q.2.2.2.2.1 d.q.q.1 d.q.q.2.1 d.q.q.2.2.1 d.q.q.2.2.2.1 d.q.q.2.2.2.2.1 d.q.q.q.1 d.q.q.q.2.1 d.q.q.q.2.2.1 d.q.q.q.2.2.2.1 d.q.q.q.2.2.2.2.1 d.q.q.q.q.1 d.q.q.q.q.2.1 d.q.q.q.q.2.2.1 d.q.q.q.q.2.2.2.1=some (fD d)∧de d.1 d.2.1 d.2.2.1 d.2.2.2.1 d.2.2.2.2.1 d.q.1 d.q.2.1 d.q.2.2.1 d.q.2.2.2.1 d.q.2.2.2.2.1 d.q.q.1 d.q.q.2.1 d.q.q.2.2.1 d.q.q.2.2.2.1 d.q.q.2.2.2.2.1 d.q.q.q.1 d.q.q.q.2.1 d.q.q.q.2.2.1 d.q.q.q.2.2.2.1 d.q.q.q.2.2.2.2.1 d.q.q.q.q.1 d.q.q.q.q.2.1 d.q.q.q.q.2.2.1 d.q.q.q.q.2.2.2.1=some (fD d):=by
 have h5:=hr.2.1.2;have h5:d.q.q.q.q.2.1.length≤1048576:=by omega
 obtain ⟨q1,q2,q3⟩:=wA d.q.q.q.q.1 d.q.q.q.q.2.1 h5;rw [q3.2 hr] at q1 q2;have m1:=Fz d.q.q.q.q.1 d.q.q.q.q.2.1 d.1 h5 q1 hm;have m2:=FA d.q.q.q.q.1 d.q.q.q.q.2.1 d.1 h5 q2 hm;obtain ⟨t1,t2,t3⟩:=pG d.q.q.q.q.1 d.q.q.q.q.2.1 d.q.q.q.q.2.2.1 d.1 h5 h3;obtain ⟨r1,r2⟩:=Ms d.q.q.q.q.1 d.q.q.q.q.2.1 d.q.q.q.q.2.2.1 d.1 d.q.q.2.1 h5 h3;obtain ⟨z1,z2⟩:=Ec d.q.q.q.q.2.2.1 d.q.q.q.q.1 d.q.q.q.q.2.1 d.1 d.q.q.2.1 h3;have c1:=nw d.q.q.q.q.2.1 h5;have c2:=mQ d.q.q.q.q.1 d.q.q.q.q.2.1 h5;have c3:=pH d.q.q.q.q.1 d.q.q.q.q.2.1 h5;have c4:=mQ d.2.2.2.1 d.2.2.2.2.1 h4;have c5:=pH d.2.2.2.1 d.2.2.2.2.1 h4;generalize fh:tC d.q.q.q.q.2.2.1 d.q.q.q.q.1 d.q.q.q.q.2.1 d.1 d.q.q.2.1=rest at *;generalize aba:dR d.q.q.q.q.2.2.1 d.q.q.q.q.1 d.q.q.q.q.2.1 d.1=Ar at *;have hlen:(d.q.q.q.q.2.2.2.1++[((2,d.2.2.2.1,d.2.2.2.2.1,0,0,0,ByteArray.empty,Ar,()):AN)]).length≤1048577:=by rw [List.length_append,List.length_singleton];omega
 have i1:=FB (m8 d (d.q.q.q.q.2.2.2.1++[(2,d.2.2.2.1,d.2.2.2.2.1,0,0,0,ByteArray.empty,Ar,())])) d.2.2.2.1 d.2.2.2.2.1 rest h4 (by omega) hlen;have i2:=Mv (m8 d (d.q.q.q.q.2.2.2.1++[(2,d.2.2.2.1,d.2.2.2.2.1,0,0,0,ByteArray.empty,Ar,())])) rest h4 (by omega) hlen;have i1:aG dn (d.1,d.2.1,d.2.2.1,d.2.2.2.1,d.2.2.2.2.1,d.q.1,d.q.2.1,d.q.2.2.1,d.q.2.2.2.1,d.q.2.2.2.2.1,d.q.q.1,d.q.q.2.1,d.q.q.2.2.1,d.q.q.2.2.2.1,d.q.q.2.2.2.2.1,d.q.q.q.1,d.q.q.q.2.1,d.q.q.q.2.2.1,d.q.q.q.2.2.2.1,d.q.q.q.2.2.2.2.1,d.q.q.q.q.1,d.q.q.q.q.2.1,d.q.q.q.q.2.2.1,d.q.q.q.q.2.2.2.1++[(2,d.2.2.2.1,d.2.2.2.2.1,0,0,0,ByteArray.empty,Ar,())],d.2.2.2.1,d.2.2.2.2.1,rest,(0:Int),())=some (.inl (m8 d ((d.q.q.q.q.2.2.2.1++[(2,d.2.2.2.1,d.2.2.2.2.1,0,0,0,ByteArray.empty,Ar,())])++jP d.2.2.2.1 d.2.2.2.2.1 rest))):=i1;have i2:ik d.1 d.2.1 d.2.2.1 d.2.2.2.1 d.2.2.2.2.1 d.q.1 d.q.2.1 d.q.2.2.1 d.q.2.2.2.1 d.q.2.2.2.2.1 d.q.q.1 d.q.q.2.1 d.q.q.2.2.1 d.q.q.2.2.2.1 d.q.q.2.2.2.2.1 d.q.q.q.1 d.q.q.q.2.1 d.q.q.q.2.2.1 d.q.q.q.2.2.2.1 d.q.q.q.2.2.2.2.1 d.q.q.q.q.1 d.q.q.q.q.2.1 d.q.q.q.q.2.2.1 (d.q.q.q.q.2.2.2.1++[(2,d.2.2.2.1,d.2.2.2.2.1,0,0,0,ByteArray.empty,Ar,())]) rest=some (m8 d ((d.q.q.q.q.2.2.2.1++[(2,d.2.2.2.1,d.2.2.2.2.1,0,0,0,ByteArray.empty,Ar,())])++jP d.2.2.2.1 d.2.2.2.2.1 rest)):=i2;have MF:Nat.ble ((d.q.q.q.q.2.2.2.1.length+1)*104) lim=true:=bh (by unfold lim;omega);have H6:Nat.ble ((((d.q.q.q.q.2.2.2.1++[((2,d.2.2.2.1,d.2.2.2.2.1,0,0,0,ByteArray.empty,Ar,()):AN)])++jP d.2.2.2.1 d.2.2.2.2.1 rest).length+1)*104) lim=true:=bh (by rw [List.length_append,wD];unfold lim;omega);have hb3:Nat.ble ((0+d.q.q.q.q.2.1.length)*8) lim=true:=bh (by unfold lim;omega);unfold fD Eb Hv;rw [fh,aba]
 by_cases ho:0<d.q.q.q.2.2.2.2.1
 ·constructor
  ·unfold et;simp only [ak ho,cond_true,c5,t1,MF,r1,i1,cT,Option.bind_some,m8,c3,hb3,H6,m1,List.nil_append];simp only [List.append_assoc]
  ·unfold de;simp only [ak ho,cond_true,c4,t2,MF,r2,i2,Option.bind_some,m8,c2,c1,H6,m2];simp only [List.append_assoc]
 ·constructor
  ·unfold et;simp only [aq ho,cond_false,cond_true,c3,MF,hb3,m1,Option.bind_some,List.nil_append]
  ·unfold de;simp only [aq ho,cond_false,cond_true,c2,c1,MF,m2,Option.bind_some]
theorem FD (d:js) (hr:d.q.q.q.q.2.1.length≤5) (h4:d.2.2.2.2.1.length≤5) (h3:kZ d.q.q.q.q.2.2.1) (h6:d.q.2.1.length≤1048576) (h7:d.q.2.2.1.length+wl sO d.q.2.2.1≤1048576) (hg:d.q.q.q.q.2.2.2.1.length+wl ax d.q.q.q.q.2.2.2.1≤1048576) :
  zB (bL (fD d))≤2097157∧(CD (fD d)).length+wl ax (CD (fD d))≤1060000:=by
 obtain ⟨z1,z2⟩:=Ec d.q.q.q.q.2.2.1 d.q.q.q.q.1 d.q.q.q.q.2.1 d.1 d.q.q.2.1 h3;obtain ⟨_,_,t3⟩:=pG d.q.q.q.q.1 d.q.q.q.q.2.1 d.q.q.q.q.2.2.1 d.1 (by omega) h3;have w0:∀l:gL,wl dk l=0:=fun l=>qF dk (fun _=>rfl) l
 constructor
 ·have e:zB (bL (fD d))=(List.length d.q.q.q.q.2.1+wl dk d.q.q.q.q.2.1)+0+(List.length d.q.2.1+wl dk d.q.2.1)+(List.length d.q.2.2.1+wl sO d.q.2.2.1)+0:=rfl;rw [e,w0,w0];omega
 ·have e:CD (fD d)=Eb d++[(3,d.q.q.q.q.1,d.q.q.q.q.2.1,0,0,0,ByteArray.empty,d.q.q.q.q.2.1,())]:=rfl;have e1:ax ((3,d.q.q.q.q.1,d.q.q.q.q.2.1,0,0,0,ByteArray.empty,d.q.q.q.q.2.1,()):AN)=(d.q.q.q.q.2.1.length+wl dk d.q.q.q.q.2.1)+0+(d.q.q.q.q.2.1.length+wl dk d.q.q.q.q.2.1):=rfl;have e2:ax ((2,d.2.2.2.1,d.2.2.2.2.1,0,0,0,ByteArray.empty,dR d.q.q.q.q.2.2.1 d.q.q.q.q.1 d.q.q.q.q.2.1 d.1,()):AN)=(d.2.2.2.2.1.length+wl dk d.2.2.2.2.1)+0+((dR d.q.q.q.q.2.2.1 d.q.q.q.q.1 d.q.q.q.q.2.1 d.1).length+wl dk (dR d.q.q.q.q.2.2.1 d.q.q.q.q.1 d.q.q.q.q.2.1 d.1)):=rfl;have e3:(Eb d).length+wl ax (Eb d)≤1048576+8000:=by
   unfold Eb
   cases decide (0<d.q.q.q.2.2.2.2.1)
   ·show d.q.q.q.q.2.2.2.1.length+wl ax d.q.q.q.q.2.2.2.1≤_;omega
   ·show (d.q.q.q.q.2.2.2.1++Hv d).length+wl ax (d.q.q.q.q.2.2.2.1++Hv d)≤_;unfold Hv;rw [B8,B8,Kv,List.length_append,List.length_append,wD,mX,vL,e2,w0,w0,List.length_singleton];have:=Nat.mul_le_mul z1 (show d.2.2.2.2.1.length+0≤5 by omega);omega
  rw [e,B8,List.length_append,mX,vL,e1,w0,List.length_singleton];omega
end Go.TM
