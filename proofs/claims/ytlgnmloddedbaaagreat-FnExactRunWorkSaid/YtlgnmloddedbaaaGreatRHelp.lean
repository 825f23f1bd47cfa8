/- Sizes, copies, sameness: what the laws' own helping functions answer. -/
import Derived.Test.YtlgnmloddedbaaaGreatRF2
set_option linter.unusedSimpArgs false
set_option linter.unusedVariables false
namespace Go.TM
open Go
theorem _root_.And.q {A B C D E F:Prop} (x:A∧B∧C∧D∧E∧F):F:=x.2.2.2.2.2
def Z_i (x:Int×Unit):Prop:=(-9223372036854775808≤x.1∧x.1<9223372036854775808)∧True
theorem z_i {x:Int×Unit} (h:CQ jd x):Z_i x:=⟨BT (cJ.1 h).1,trivial⟩
def mW (_:Int×Unit):Nat:=0
theorem Ud (a0:aH) {left:Int} (hz:List.length a0≤9223372036854775807∧∀y∈a0,Z_i y) (h0:0≤left) (h1:left≤1048576):Left (sQ a0 left) (List.length a0+wl mW a0) left:=by
 obtain ⟨hlen,WA⟩:=hz;unfold sQ;rw [du (by omega) (by omega)]
 by_cases hd:left-((List.length a0:Nat):Int)<0
 ·rw [af hd];exact ⟨-1,rfl,by omega,by omega⟩
 rw [ai hd];simp only [cond_false];have hw:wl mW a0=0:=ns _ (fun _=>rfl) _;exact ⟨_,rfl,by omega,by intro;omega⟩
def RZ (x:Int×aH×Unit):Prop:=(-9223372036854775808≤x.1∧x.1<9223372036854775808)∧(List.length x.2.1≤9223372036854775807∧∀y∈x.2.1,Z_i y)∧True
def L3 (x:Int×aH×Unit):Nat:=(List.length x.2.1+wl mW x.2.1)
theorem Ue (cu:Int) (bp:aH) {left:Int} (hz:RZ (cu,bp,())) (h0:0≤left) (h1:left≤1048576):Left (sR cu bp left) (L3 (cu,bp,())) left:=by
 have hz:(-9223372036854775808≤cu∧cu<9223372036854775808)∧(List.length bp≤9223372036854775807∧∀y∈bp,Z_i y)∧True:=hz;show Left _ ((List.length bp+wl mW bp)) left;obtain ⟨z0,z1,_⟩:=hz;unfold sR;obtain ⟨m1,e1,l1,w1⟩:=Ud bp (left:=left) z1 (by omega) (by omega);rw [e1];simp only [Option.bind_some]
 by_cases hd1:m1<0
 ·rw [af hd1];exact ⟨-1,rfl,by omega,by omega⟩
 rw [ai hd1];simp only [cond_false];have w1:=w1 (by omega);exact ⟨_,rfl,by omega,by intro;omega⟩
def Dz (x:uN):Prop:=(-9223372036854775808≤x.1∧x.1<9223372036854775808)∧(-9223372036854775808≤x.2.1∧x.2.1<9223372036854775808)∧(-9223372036854775808≤x.2.2.1∧x.2.2.1<9223372036854775808)∧(-9223372036854775808≤x.2.2.2.1∧x.2.2.2.1<9223372036854775808)∧(ByteArray.size x.2.2.2.2.1≤9223372036854775807)∧True
theorem Uf {x:uN} (h:CQ nv x):Dz x:=⟨BT (cJ.1 h).1,BT (cJ.1 (cJ.1 h).2).1,BT (cJ.1 (cJ.1 (cJ.1 h).2).2).1,BT (cJ.1 (cJ.1 (cJ.1 (cJ.1 h).2).2).2).1,WC (cJ.1 (cJ.1 (cJ.1 (cJ.1 (cJ.1 h).2).2).2).2).1,trivial⟩
def kU (x:uN):Nat:=ByteArray.size x.2.2.2.2.1
theorem Ug (cu:Int) (bp:Int) (cw:Int) (cB:Int) (cP:ByteArray) {left:Int} (hz:Dz (cu,bp,cw,cB,cP,())) (h0:0≤left) (h1:left≤1048576):Left (sS cu bp cw cB cP left) (kU (cu,bp,cw,cB,cP,())) left:=by
 have hz:(-9223372036854775808≤cu∧cu<9223372036854775808)∧(-9223372036854775808≤bp∧bp<9223372036854775808)∧(-9223372036854775808≤cw∧cw<9223372036854775808)∧(-9223372036854775808≤cB∧cB<9223372036854775808)∧(ByteArray.size cP≤9223372036854775807)∧True:=hz;show Left _ (ByteArray.size cP) left;obtain ⟨z0,z1,z2,z3,z4,_⟩:=hz;unfold sS;rw [du (by omega) (by omega)]
 by_cases hd4:left-((ByteArray.size cP:Nat):Int)<0
 ·rw [af hd4];exact ⟨-1,rfl,by omega,by omega⟩
 rw [ai hd4];simp only [cond_false];exact ⟨_,rfl,by omega,by intro;omega⟩
theorem R0 (a0:bJ) {left:Int} (hz:List.length a0≤9223372036854775807∧∀y∈a0,Dz y) (h0:0≤left) (h1:left≤1048576):Left (qB a0 left) (List.length a0+wl kU a0) left:=by
 obtain ⟨hlen,WA⟩:=hz;unfold qB;rw [du (by omega) (by omega)]
 by_cases hd:left-((List.length a0:Nat):Int)<0
 ·rw [af hd];exact ⟨-1,rfl,by omega,by omega⟩
 rw [ai hd];simp only [cond_false];obtain ⟨e,he,hq⟩:=dw (round:=j9) (x:=(a0,left-((List.length a0:Nat):Int),((0:Nat):Int),())) a0.length (fun k x=>∃m:Int,x=(a0,m,((k:Nat):Int),())∧0≤m∧((a0.length+wl kU (a0.take k):Nat):Int)+m≤left)
  (fun e=>match e with
   |.inl y=>0≤y.1∧((a0.length+wl kU a0:Nat):Int)+y.1≤left
   |.inr y=>y.1 = -1) (by
   rintro x ⟨m,rfl,g1,g2⟩
   refine ⟨.inl (m,()),?_,g1,by rw [List.take_length] at g2;exact g2⟩;simp only [j9,pJ,aC,cond_false]) (by
   rintro k x hk ⟨m,rfl,g1,g2⟩
   have hw:=Dy kU a0 hk;have hz:=WA _ (List.getElem_mem hk);obtain ⟨m',e',l',w'⟩:=Ug ((a0[k]).1) ((a0[k]).2.1) ((a0[k]).2.2.1) ((a0[k]).2.2.2.1) ((a0[k]).2.2.2.2.1) (left:=m) hz g1 (by omega);have w':0≤m'→((kU a0[k]:Nat):Int)+m'≤m:=w';simp only [j9,pJ,ax hk,ak,cond_true,az,List.getElem?_eq_getElem hk,Option.bind_some,e',aE (show k<4611686018427387904 by omega)]
   by_cases hm:m'<0
   ·rw [af hm];exact .inl ⟨.inr (-1,()),rfl,rfl⟩
   ·rw [ai hm];have w':=w' (by omega);exact .inr ⟨_,rfl,_,rfl,by omega,by omega⟩)
   ⟨_,rfl,by omega,by rw [List.take_zero,WB];omega⟩
 rw [show (0:Int)=((0:Nat):Int) from rfl,he]
 cases e with
 |inl y=>exact ⟨y.1,rfl,by have:=hq.1;omega,fun _=>hq.2⟩
 |inr y=>exact ⟨y.1,rfl,by rw [show y.1 = -1 from hq];omega,by rw [show y.1 = -1 from hq];omega⟩
theorem Uh (a0:aH) (h:List.length a0+wl mW a0≤268435456):sU a0=some (a0,()):=by
 have hl:aG jv (a0,List.replicate a0.length ((0:Int),()),(0:Int),())=some (.inl (a0,())):=by
  have:=bD (round:=jv) (e:=.inl (a0,())) a0.length (fun k=>(a0,a0.take k++List.replicate (a0.length-k) ((0:Int),()),((k:Nat):Int),())) (by
   simp only [jv,rI,aC,cond_false,List.take_length,Nat.sub_self,List.replicate_zero,List.append_nil]) (fun k hk=>by
   have hb:k<(a0.take k++List.replicate (a0.length-k) (((0:Int),()):Int×Unit)).length:=by simp;omega
   simp only [jv,rI,ax hk,ak,cond_true,az,List.getElem?_eq_getElem hk,List.getElem?_eq_getElem hb,Option.bind_some,cS hb,aE (show k<4611686018427387904 by omega)];rw [←JG a0 _ hk])
  simpa using this
 unfold sU;simp only [decide_true,ak,cond_true,az,aJ (show a0.length*8≤lim by unfold lim;omega),hl,dZ]
theorem Ui (cu:Int) (bp:aH) (h:L3 (cu,bp,())≤268435456):lg cu bp=some (cu,bp,()):=by
 have h:(List.length bp+wl mW bp)≤268435456:=h;unfold lg;simp only [Option.bind_some,Uh bp (by show (List.length bp+wl mW bp)≤268435456;omega)]
theorem Uj (cu:Int) (bp:Int) (cw:Int) (cB:Int) (cP:ByteArray) (h:kU (cu,bp,cw,cB,cP,())≤268435456):wZ cu bp cw cB cP=some (cu,bp,cw,cB,cP,()):=by
 have h:ByteArray.size cP≤268435456:=h;rfl
theorem R1 (a0:bJ) (h:List.length a0+wl kU a0≤268435456):jV a0=some (a0,()):=by
 have hl:aG iu (a0,List.replicate a0.length ((0:Int),(0:Int),(0:Int),(0:Int),ByteArray.empty,()),(0:Int),())=some (.inl (a0,())):=by
  have:=bD (round:=iu) (e:=.inl (a0,())) a0.length (fun k=>(a0,a0.take k++List.replicate (a0.length-k) ((0:Int),(0:Int),(0:Int),(0:Int),ByteArray.empty,()),((k:Nat):Int),())) (by
   simp only [iu,pK,aC,cond_false,List.take_length,Nat.sub_self,List.replicate_zero,List.append_nil]) (fun k hk=>by
   have hb:k<(a0.take k++List.replicate (a0.length-k) (((0:Int),(0:Int),(0:Int),(0:Int),ByteArray.empty,()):uN)).length:=by simp;omega
   simp only [iu,pK,ax hk,ak,cond_true,az,List.getElem?_eq_getElem hk,List.getElem?_eq_getElem hb,Option.bind_some,cS hb,aE (show k<4611686018427387904 by omega),Uj ((a0[k]).1) ((a0[k]).2.1) ((a0[k]).2.2.1) ((a0[k]).2.2.2.1) ((a0[k]).2.2.2.2.1) (Nat.le_trans (uM kU a0 _ (List.getElem_mem hk)) (by omega))];rw [←JG a0 _ hk])
  simpa using this
 unfold jV;simp only [decide_true,ak,cond_true,az,aJ (show a0.length*48≤lim by unfold lim;omega),hl,dZ]
theorem DA (a0:aH) (h:List.length a0+wl mW a0≤268435456):iS a0 a0=some (true,()):=by
 have hl:aG jD (a0,a0,(0:Int),())=some (.inl ()):=by
  have:=bD (round:=jD) (e:=.inl ()) a0.length (fun k=>(a0,a0,((k:Nat):Int),())) (by
   simp only [jD,sg,aC,cond_false]) (fun k hk=>by
   simp only [jD,sg,ax hk,ak,cond_true,cond_false,az,List.getElem?_eq_getElem hk,Option.bind_some,decide_true,beq_self_eq_true,bS,Bool.not_true,aE (show k<4611686018427387904 by omega)])
  simpa using this
 unfold iS;simp only [decide_true,Bool.not_true,cond_false,hl,dZ]
theorem H4 (cu:Int) (bp:aH) (h:L3 (cu,bp,())≤268435456):mU cu bp cu bp=some (true,()):=by
 have h:(List.length bp+wl mW bp)≤268435456:=h;unfold mU;simp only [decide_true,beq_self_eq_true,Bool.not_true,Bool.not_false,cond_true,cond_false,bS,Option.bind_some,DA bp (by show (List.length bp+wl mW bp)≤268435456;omega)]
def dA (x:pI):Nat:=ByteArray.size x.2.2.2.1
theorem Nh (cu:Int) (bp:Int) (cw:Int) (cB:ByteArray) (h:dA (cu,bp,cw,cB,())≤268435456):pn cu bp cw cB cu bp cw cB=some (true,()):=by
 have h:ByteArray.size cB≤268435456:=h;unfold pn;simp only [decide_true,beq_self_eq_true,Bool.not_true,Bool.not_false,cond_true,cond_false,bS,Option.bind_some]
theorem EY (a0:ah) (h:List.length a0+wl dA a0≤268435456):lN a0 a0=some (true,()):=by
 have hl:aG iF (a0,a0,(0:Int),())=some (.inl ()):=by
  have:=bD (round:=iF) (e:=.inl ()) a0.length (fun k=>(a0,a0,((k:Nat):Int),())) (by
   simp only [iF,qd,aC,cond_false]) (fun k hk=>by
   simp only [iF,qd,ax hk,ak,cond_true,cond_false,az,List.getElem?_eq_getElem hk,Option.bind_some,decide_true,beq_self_eq_true,bS,Bool.not_true,aE (show k<4611686018427387904 by omega),Nh ((a0[k]).1) ((a0[k]).2.1) ((a0[k]).2.2.1) ((a0[k]).2.2.2.1) (Nat.le_trans (uM dA a0 _ (List.getElem_mem hk)) (by omega))])
  simpa using this
 unfold lN;simp only [decide_true,Bool.not_true,cond_false,hl,dZ]
def R2 (x:ByteArray×Unit):Nat:=ByteArray.size x.1
theorem L4 (a0:gW) (h:List.length a0+wl R2 a0≤268435456):nK a0 a0=some (true,()):=by
 have hl:aG fV (a0,a0,(0:Int),())=some (.inl ()):=by
  have:=bD (round:=fV) (e:=.inl ()) a0.length (fun k=>(a0,a0,((k:Nat):Int),())) (by
   simp only [fV,nJ,aC,cond_false]) (fun k hk=>by
   simp only [fV,nJ,ax hk,ak,cond_true,cond_false,az,List.getElem?_eq_getElem hk,Option.bind_some,decide_true,beq_self_eq_true,bS,Bool.not_true,aE (show k<4611686018427387904 by omega)])
  simpa using this
 unfold nK;simp only [decide_true,Bool.not_true,cond_false,hl,dZ]
def L5 (x:gZ):Nat:=(List.length x.q.1+wl mW x.q.1)
theorem J5 (cu:Int) (bp:Int) (cw:Int) (cB:Int) (cP:Int) (fL:aH) (h:L5 (cu,bp,cw,cB,cP,fL,())≤268435456):nL cu bp cw cB cP fL cu bp cw cB cP fL=some (true,()):=by
 have h:(List.length fL+wl mW fL)≤268435456:=h;unfold nL;simp only [decide_true,beq_self_eq_true,Bool.not_true,Bool.not_false,cond_true,cond_false,bS,Option.bind_some,DA fL (by show (List.length fL+wl mW fL)≤268435456;omega)]
def aD (x:ar):Nat:=(List.length x.2.2.1+wl mW x.2.2.1)+(List.length x.2.2.2.1+wl dA x.2.2.2.1)+(List.length x.2.2.2.2.1+wl mW x.2.2.2.2.1)+(List.length x.q.1+wl R2 x.q.1)+(List.length x.q.q.q.1+wl mW x.q.q.q.1)
theorem Uk (cu:Int) (bp:Int) (cw:aH) (cB:ah) (cP:aH) (fL:gW) (Dl:Int) (yf:Int) (Dm:Int) (Dn:Int) (ua:Int) (si:Int) (G1:Int) (G2:Int) (G3:Int) (yB:aH) (h:aD (cu,bp,cw,cB,cP,fL,Dl,yf,Dm,Dn,ua,si,G1,G2,G3,yB,())≤268435456):sX cu bp cw cB cP fL Dl yf Dm Dn ua si G1 G2 G3 yB cu bp cw cB cP fL Dl yf Dm Dn ua si G1 G2 G3 yB=some (true,()):=by
 have h:(List.length cw+wl mW cw)+(List.length cB+wl dA cB)+(List.length cP+wl mW cP)+(List.length fL+wl R2 fL)+(List.length yB+wl mW yB)≤268435456:=h;unfold sX;simp only [decide_true,beq_self_eq_true,Bool.not_true,Bool.not_false,cond_true,cond_false,bS,Option.bind_some,H4 bp cw (by show (List.length cw+wl mW cw)≤268435456;omega),EY cB (by show (List.length cB+wl dA cB)≤268435456;omega),DA cP (by show (List.length cP+wl mW cP)≤268435456;omega),L4 fL (by show (List.length fL+wl R2 fL)≤268435456;omega),J5 ua si G1 G2 G3 yB (by show (List.length yB+wl mW yB)≤268435456;omega)]
theorem R3 (a0:aa) (h:List.length a0+wl aD a0≤268435456):qO a0 a0=some (true,()):=by
 have hl:aG iG (a0,a0,(0:Int),())=some (.inl ()):=by
  have:=bD (round:=iG) (e:=.inl ()) a0.length (fun k=>(a0,a0,((k:Nat):Int),())) (by
   simp only [iG,qe,aC,cond_false]) (fun k hk=>by
   simp only [iG,qe,ax hk,ak,cond_true,cond_false,az,List.getElem?_eq_getElem hk,Option.bind_some,decide_true,beq_self_eq_true,bS,Bool.not_true,aE (show k<4611686018427387904 by omega),Uk ((a0[k]).1) ((a0[k]).2.1) ((a0[k]).2.2.1) ((a0[k]).2.2.2.1) ((a0[k]).2.2.2.2.1) ((a0[k]).q.1) ((a0[k]).q.2.1) ((a0[k]).q.2.2.1) ((a0[k]).q.2.2.2.1) ((a0[k]).q.2.2.2.2.1) ((a0[k]).q.q.1) ((a0[k]).q.q.2.1) ((a0[k]).q.q.2.2.1) ((a0[k]).q.q.2.2.2.1) ((a0[k]).q.q.2.2.2.2.1) ((a0[k]).q.q.q.1) (Nat.le_trans (uM aD a0 _ (List.getElem_mem hk)) (by omega))])
  simpa using this
 unfold qO;simp only [decide_true,Bool.not_true,cond_false,hl,dZ]
def a6 (x:bn):Nat:=(List.length x.q.2.2.1+wl mW x.q.2.2.1)+ByteArray.size x.q.q.2.1
theorem ZJ (cu:Int) (bp:Bool) (cw:Int) (cB:Int) (cP:Int) (fL:Int) (Dl:Int) (yf:aH) (Dm:Int) (Dn:Int) (ua:Int) (si:ByteArray) (h:a6 (cu,bp,cw,cB,cP,fL,Dl,yf,Dm,Dn,ua,si,())≤268435456):vJ cu bp cw cB cP fL Dl yf Dm Dn ua si cu bp cw cB cP fL Dl yf Dm Dn ua si=some (true,()):=by
 have h:(List.length yf+wl mW yf)+ByteArray.size si≤268435456:=h;unfold vJ;simp only [decide_true,beq_self_eq_true,Bool.not_true,Bool.not_false,cond_true,cond_false,bS,Option.bind_some,J5 cw cB cP fL Dl yf (by show (List.length yf+wl mW yf)≤268435456;omega),Nh Dm Dn ua si (by show ByteArray.size si≤268435456;omega)]
theorem Ul (a0:ae) (h:List.length a0+wl a6 a0≤268435456):sY a0 a0=some (true,()):=by
 have hl:aG jE (a0,a0,(0:Int),())=some (.inl ()):=by
  have:=bD (round:=jE) (e:=.inl ()) a0.length (fun k=>(a0,a0,((k:Nat):Int),())) (by
   simp only [jE,sj,aC,cond_false]) (fun k hk=>by
   simp only [jE,sj,ax hk,ak,cond_true,cond_false,az,List.getElem?_eq_getElem hk,Option.bind_some,decide_true,beq_self_eq_true,bS,Bool.not_true,aE (show k<4611686018427387904 by omega),ZJ ((a0[k]).1) ((a0[k]).2.1) ((a0[k]).2.2.1) ((a0[k]).2.2.2.1) ((a0[k]).2.2.2.2.1) ((a0[k]).q.1) ((a0[k]).q.2.1) ((a0[k]).q.2.2.1) ((a0[k]).q.2.2.2.1) ((a0[k]).q.2.2.2.2.1) ((a0[k]).q.q.1) ((a0[k]).q.q.2.1) (Nat.le_trans (uM a6 a0 _ (List.getElem_mem hk)) (by omega))])
  simpa using this
 unfold sY;simp only [decide_true,Bool.not_true,cond_false,hl,dZ]
def dK (x:ah×Unit):Nat:=(List.length x.1+wl dA x.1)
theorem Pf (a0:aA) (h:List.length a0+wl dK a0≤268435456):oV a0 a0=some (true,()):=by
 have hl:aG gR (a0,a0,(0:Int),())=some (.inl ()):=by
  have:=bD (round:=gR) (e:=.inl ()) a0.length (fun k=>(a0,a0,((k:Nat):Int),())) (by
   simp only [gR,oA,aC,cond_false]) (fun k hk=>by
   simp only [gR,oA,ax hk,ak,cond_true,cond_false,az,List.getElem?_eq_getElem hk,Option.bind_some,decide_true,beq_self_eq_true,bS,Bool.not_true,aE (show k<4611686018427387904 by omega),EY ((a0[k]).1) (Nat.le_trans (uM dK a0 _ (List.getElem_mem hk)) (by omega))])
  simpa using this
 unfold oV;simp only [decide_true,Bool.not_true,cond_false,hl,dZ]
def ei (x:aj):Nat:=(List.length x.2.1+wl mW x.2.1)+(List.length x.2.2.1+wl aD x.2.2.1)+(List.length x.2.2.2.1+wl a6 x.2.2.2.1)+(List.length x.2.2.2.2.1+wl dK x.2.2.2.2.1)+(List.length x.q.1+wl dA x.q.1)
theorem Um (cu:Int) (bp:aH) (cw:aa) (cB:ae) (cP:aA) (fL:ah) (h:ei (cu,bp,cw,cB,cP,fL,())≤268435456):mV cu bp cw cB cP fL cu bp cw cB cP fL=some (true,()):=by
 have h:(List.length bp+wl mW bp)+(List.length cw+wl aD cw)+(List.length cB+wl a6 cB)+(List.length cP+wl dK cP)+(List.length fL+wl dA fL)≤268435456:=h;unfold mV;simp only [decide_true,beq_self_eq_true,Bool.not_true,Bool.not_false,cond_true,cond_false,bS,Option.bind_some,H4 cu bp (by show (List.length bp+wl mW bp)≤268435456;omega),R3 cw (by show (List.length cw+wl aD cw)≤268435456;omega),Ul cB (by show (List.length cB+wl a6 cB)≤268435456;omega),Pf cP (by show (List.length cP+wl dK cP)≤268435456;omega),EY fL (by show (List.length fL+wl dA fL)≤268435456;omega)]
theorem Un (cu:Int) (bp:Int) (cw:Int) (cB:Int) (cP:ByteArray) (h:kU (cu,bp,cw,cB,cP,())≤268435456):sZ cu bp cw cB cP cu bp cw cB cP=some (true,()):=by
 have h:ByteArray.size cP≤268435456:=h;unfold sZ;simp only [decide_true,beq_self_eq_true,Bool.not_true,Bool.not_false,cond_true,cond_false,bS,Option.bind_some]
theorem R4 (a0:bJ) (h:List.length a0+wl kU a0≤268435456):qP a0 a0=some (true,()):=by
 have hl:aG iH (a0,a0,(0:Int),())=some (.inl ()):=by
  have:=bD (round:=iH) (e:=.inl ()) a0.length (fun k=>(a0,a0,((k:Nat):Int),())) (by
   simp only [iH,qf,aC,cond_false]) (fun k hk=>by
   simp only [iH,qf,ax hk,ak,cond_true,cond_false,az,List.getElem?_eq_getElem hk,Option.bind_some,decide_true,beq_self_eq_true,bS,Bool.not_true,aE (show k<4611686018427387904 by omega),Un ((a0[k]).1) ((a0[k]).2.1) ((a0[k]).2.2.1) ((a0[k]).2.2.2.1) ((a0[k]).2.2.2.2.1) (Nat.le_trans (uM kU a0 _ (List.getElem_mem hk)) (by omega))])
  simpa using this
 unfold qP;simp only [decide_true,Bool.not_true,cond_false,hl,dZ]
end Go.TM
set_option linter.unusedSimpArgs false
set_option linter.unusedVariables false
namespace Go.TM
open Go
def R5 (y:Int×Unit):UInt8:=UInt8.ofNat y.1.toNat
theorem H5 (ys:List (Int×Unit)):(bytesOf ys).data.toList=ys.map R5:=by
 have key:∀(ys:List (Int×Unit)) (s:ByteArray),(List.foldl (fun (r:ByteArray) (y:Int×Unit)=>r.push (UInt8.ofNat y.1.toNat)) s ys).data.toList=s.data.toList++ys.map R5:=by
  intro ys
  induction ys with
  |nil=>intro s;simp
  |cons y ys ih=>
   intro s;rw [List.foldl_cons,ih];simp [R5]
 have:=key ys ByteArray.empty;exact this
theorem H6 (ys:List (Int×Unit)):(bytesOf ys).size=ys.length:=by
 have h1:(bytesOf ys).data.toList.length=(bytesOf ys).size:=Array.length_toList;rw [←h1,H5,List.length_map]
def Uo {B:Type}:Sum (ByteArray×Unit) B→Prop
 |.inl y=>y.1.size≤20
 |.inr _=>False
theorem xu (n:Nat) (h:n<1099511627776):∃b:ByteArray,dE ((n:Nat):Int)=some (b,()):=by
 unfold dE
 by_cases h0:((n:Nat):Int)≤0
 ·rw [af h0];exact ⟨_,rfl⟩
 rw [ai h0];obtain ⟨e,he,hq⟩:=dw (round:=gS) (x:=(((n:Nat):Int),(ByteArray.mk #[]),())) 20 (fun k x=>∃(m:Nat) (out:ByteArray),x=(((m:Nat):Int),out,())∧m≤n∧m<10 ^ (20-k)∧out.size=k)
  Uo (by
  rintro x ⟨m,out,rfl,hn,hm,hl⟩
  have hm:m<1:=hm;refine ⟨.inl (out,()),?_,by show out.size≤20;omega⟩;simp only [gS,lO,ai (show ¬(0:Int)<((m:Nat):Int) by omega),cond_false]) (by
  rintro k x hk ⟨m,out,rfl,hn,hm,hl⟩
  by_cases h1:0<m
  ·have hd:Int.tdiv ((m:Nat):Int) (10:Int)=((m / 10:Nat):Int):=rfl;have hbz:ByteArray.size (bytesOf [(IntKind.u8.wrap (IntKind.i64.wrap ((48:Int)+(Int.tmod ((m:Nat):Int) (10:Int)))),())])=1:=H6 _;refine .inr ⟨(((m / 10:Nat):Int),bytesOf [(IntKind.u8.wrap (IntKind.i64.wrap ((48:Int)+(Int.tmod ((m:Nat):Int) (10:Int)))),())]++out,()),?_,m / 10,bytesOf [(IntKind.u8.wrap (IntKind.i64.wrap ((48:Int)+(Int.tmod ((m:Nat):Int) (10:Int)))),())]++out,rfl,by omega,?_,?_⟩
   ·simp only [gS,lO,af (show (0:Int)<((m:Nat):Int) by omega),cond_true,hd,du (show -9223372036854775808≤((m / 10:Nat):Int) by omega) (show ((m / 10:Nat):Int)<9223372036854775808 by omega),hbz,
     aJ (show 1+out.size≤lim by unfold lim;omega)]
   ·have e1:20-k=(20-(k+1))+1:=by omega
    rw [e1,Nat.pow_succ] at hm;omega
   ·rw [ByteArray.size_append,hbz];omega
  ·refine .inl ⟨.inl (out,()),?_,by show out.size≤20;omega⟩;simp only [gS,lO,ai (show ¬(0:Int)<((m:Nat):Int) by omega),cond_false]) ⟨n,_,rfl,Nat.le_refl _,by show n<100000000000000000000;omega,rfl⟩
 rw [he]
 cases e with
 |inr e=>exact hq.elim
 |inl e=>
  have hq:e.1.size≤20:=hq;simp only [cond_false,dZ,aJ (show 1+ByteArray.size e.1≤lim by unfold lim;omega),cond_true];exact ⟨_,rfl⟩
noncomputable def tn (n:Nat):ByteArray:=if h:n<1099511627776 then Classical.choose (xu n h) else ByteArray.empty
theorem qZ {n:Nat} (h:n<1099511627776):dE ((n:Nat):Int)=some (tn n,()):=by
 unfold tn;rw [dif_pos h];exact Classical.choose_spec (xu n h)
end Go.TM
set_option linter.unusedSimpArgs false
set_option linter.unusedVariables false
namespace Go.TM
open Go
theorem H7 (k:Nat):decide (((k:Nat):Int)<(0:Int))=false:=ai (by omega)
theorem bY {k:Nat} (h:k≤549755813888):IntKind.i64.wrap (((k:Nat):Int)+(1:Int))=(((k+1:Nat)):Int):=aE (by omega)
theorem J6 {k:Nat} (h:k≤549755813888):dE ((k:Nat):Int)=some (tn k,()):=qZ (by omega)
theorem Bc {α:Type} (f g:α→Nat) (c:Nat) (h:∀x,f x≤c*(1+g x)):(xs:List α)→wl f xs≤c*(xs.length+wl g xs)
 | []=>Nat.zero_le _
 |x::xs=>by
  have h1:=h x;have h2:=Bc f g c h xs;rw [sO,sO,List.length_cons];have e:c*(xs.length+1+(g x+wl g xs))=c*(1+g x)+c*(xs.length+wl g xs):=by rw [←Nat.mul_add];congr 1;omega
  omega
theorem EZ {α:Type} (f:α→Nat) (xs:List α) {k:Nat} (hk:k<xs.length):wl f (xs.take k)+f xs[k]≤wl f xs:=by
 have h1:=Dy f xs hk;have h2:wl f xs=wl f (xs.take (k+1))+wl f (xs.drop (k+1)):=by rw [←Ey,List.take_append_drop]
 omega
theorem Ci {α B:Type} (M:α→Nat) (HD:α→Nat→α→Prop) (round:List α×Int×Int×Unit→Option (Sum (List α×Int×Int×Unit) (Sum (List α×Int×Unit) B))) (xs:List α) (a:Nat)
  (HN:∀(l:List α) (m:Int),l.length=xs.length→round (l,m,((xs.length:Nat):Int),())=some (.inr (.inl (l,m,()))))
  (vU:∀(l:List α) (k:Nat) (hk:k<xs.length) (n:Nat),l.length=xs.length→l[k]?=some xs[k]→n+M xs[k]≤a+wl M xs→∃y,HD xs[k] n y∧round (l,((n:Nat):Int),((k:Nat):Int),())=some (.inl (l.set k y,((n+M xs[k]:Nat):Int),((k+1:Nat):Int),()))) :
  ∃l,aG round (xs,((a:Nat):Int),(0:Int),())=some (.inl (l,((a+wl M xs:Nat):Int),()))∧l.length=xs.length∧∀j (hj:j<xs.length),∃y,l[j]?=some y∧HD xs[j] (a+wl M (xs.take j)) y:=by
 obtain ⟨e,he,l,rfl,hl,hj⟩:=dw (round:=round) (x:=(xs,((a:Nat):Int),((0:Nat):Int),())) xs.length
  (fun k x=>∃l:List α,x=(l,((a+wl M (xs.take k):Nat):Int),((k:Nat):Int),())∧l.length=xs.length∧(∀j (hj:j<xs.length),j<k→∃y,l[j]?=some y∧HD xs[j] (a+wl M (xs.take j)) y)∧∀j (hj:j<xs.length),k≤j→l[j]?=some xs[j])
  (fun e=>∃l:List α,e=.inl (l,((a+wl M xs:Nat):Int),())∧l.length=xs.length∧∀j (hj:j<xs.length),∃y,l[j]?=some y∧HD xs[j] (a+wl M (xs.take j)) y) (by
  rintro x ⟨l,rfl,hl,hj,_⟩
  rw [List.take_length];exact ⟨_,HN l _ hl,l,rfl,hl,fun j VI=>hj j VI VI⟩) (by
  rintro k x hk ⟨l,rfl,hl,h1,h2⟩
  have hb:=EZ M xs hk;obtain ⟨y,hy,hr⟩:=vU l k hk (a+wl M (xs.take k)) hl (h2 k hk (Nat.le_refl _)) (by omega);refine .inr ⟨_,hr,l.set k y,by rw [Nat.add_assoc,←Dy M xs hk],by simp [hl],fun j hj x8 => ?_,fun j hj x8 => ?_⟩
  ·by_cases e:k=j
   ·subst e;exact ⟨y,by rw [List.getElem?_set_self (by omega)],hy⟩
   ·rw [List.getElem?_set_ne e];exact h1 j hj (by omega)
  ·rw [List.getElem?_set_ne (by omega)];exact h2 j hj (by omega)) ⟨xs,by rw [List.take_zero];rfl,rfl,fun j _ h=>by omega,fun j hj _=>List.getElem?_eq_getElem hj⟩
 exact ⟨l,he,hl,hj⟩
theorem Cj {α B:Type} (M:α→Nat) (HD:α→Nat→α→Prop) (round:List α×Int×Int×Unit→Option (Sum (List α×Int×Int×Unit) (Sum (Int×Unit) B))) (xs l:List α) (a:Nat) (hl:l.length=xs.length)
  (hy:∀j (hj:j<xs.length),∃y,l[j]?=some y∧HD xs[j] (a+wl M (xs.take j)) y)
  (HN:∀m:Int,round (l,m,((xs.length:Nat):Int),())=some (.inr (.inl (m,()))))
  (vU:∀(k:Nat) (hk:k<xs.length) (n:Nat) (y:α),k<l.length→l[k]?=some y→HD xs[k] n y→n+M xs[k]≤a+wl M xs→round (l,((n:Nat):Int),((k:Nat):Int),())=some (.inl (l,((n+M xs[k]:Nat):Int),((k+1:Nat):Int),()))) :
  aG round (l,((a:Nat):Int),(0:Int),())=some (.inl (((a+wl M xs:Nat):Int),())):=by
 have h:=bD (round:=round) (e:=.inl (((a+wl M xs:Nat):Int),())) xs.length (fun k=>(l,((a+wl M (xs.take k):Nat):Int),((k:Nat):Int),())) (by
  rw [List.take_length];exact HN _) (fun k hk=>by
  have hb:=EZ M xs hk;obtain ⟨y,h1,h2⟩:=hy k hk;have:=vU k hk _ y (by omega) h1 h2 (by omega);rw [this,Nat.add_assoc,←Dy M xs hk])
 have h:aG round (l,((a+wl M (xs.take 0):Nat):Int),(0:Int),())=_:=h
 rwa [List.take_zero] at h
end Go.TM
set_option linter.unusedSimpArgs false
set_option linter.unusedVariables false
namespace Go.TM
open Go
noncomputable def E0 (n:Nat):Int×Unit:=(((n+0:Nat):Int),())
def L6 (n a:Nat) {B:Type}:Sum ((aH)×Int×Unit) B→Prop
 |.inl y=>y.2.1=((a+1*n:Nat):Int)∧y.1.length=n∧∀j,j<n→y.1[j]?=some (E0 (a+1*j))
 |.inr _=>False
theorem xV (xs:aH) (a:Nat) (h:List.length xs≤268435456) (ha:a≤549755813888):∃l,fE xs ((a:Nat):Int)=some (((a+1*List.length xs:Nat):Int),l,())∧cH l ((a:Nat):Int)=some (((a+1*List.length xs:Nat):Int),())∧List.length l=List.length xs:=by
 obtain ⟨e,he,hq⟩:=dw (round:=jF) (x:=(xs,((a:Nat):Int),((0:Nat):Int),())) xs.length (fun k x=>∃l:aH,x=(l,((a+1*k:Nat):Int),((k:Nat):Int),())∧l.length=xs.length∧∀j,j<k→l[j]?=some (E0 (a+1*j)))
  (L6 xs.length a) (by
  rintro x ⟨l,rfl,hl,hj⟩
  refine ⟨.inl (l,((a+1*xs.length:Nat):Int),()),?_,rfl,hl,hj⟩;simp only [jF,oB,hl,aC,cond_false]) (by
  rintro k x hk ⟨l,rfl,hl,hj⟩
  have yP:k<l.length:=by omega
  refine .inr ⟨_,?_,l.set k (E0 (a+1*k)),rfl,by simp [hl],fun j VI => ?_⟩
  ·have e0:((a+1*k:Nat):Int)=((a+1*k+0:Nat):Int):=rfl;have e1:IntKind.i64.wrap (((a+1*k+0:Nat):Int)+(1:Int))=((a+1*k+1:Nat):Int):=by rw [du]<;>omega
   have ez:((a+1*k+1:Nat):Int)=((a+1*(k+1):Nat):Int):=by omega
   rw [e0];simp only [jF,oB,ax yP,ak,cond_true,az,List.length_set,cS yP,List.getElem?_eq_getElem yP,List.getElem?_set_self yP,List.set_set,Option.bind_some,e1,ez,aE (show k<4611686018427387904 by omega)];rfl
  ·rw [List.getElem?_set]
   by_cases x8:k=j
   ·subst x8;rw [if_pos rfl,if_pos yP]
   ·rw [if_neg x8];exact hj j (by omega)) ⟨xs,rfl,rfl,fun j hj=>by omega⟩
 cases e with
 |inr e=>exact hq.elim
 |inl e=>
  obtain ⟨q1,q2,q3⟩:=hq;obtain ⟨l,m,u⟩:=e;simp only at q1 q2 q3;subst q1;refine ⟨l,?_,?_,q2⟩
  ·unfold fE;rw [show (0:Int)=((0:Nat):Int) from rfl,he];rfl
  ·have hl:=bD (round:=gU) (e:=.inl (((a+1*xs.length:Nat):Int),())) xs.length (fun k=>(l,((a+1*k:Nat):Int),((k:Nat):Int),())) (by
    simp only [gU,oD,q2,aC,cond_false]) (fun k hk=>by
    have yP:k<l.length:=by omega
    have SG:l[k]?=some (((a+1*k+0:Nat):Int),()):=q3 k hk;have e0:((a+1*k:Nat):Int)=((a+1*k+0:Nat):Int):=rfl;have e1:IntKind.i64.wrap (((a+1*k+0:Nat):Int)+(1:Int))=((a+1*k+1:Nat):Int):=by rw [du]<;>omega
    have ez:((a+1*k+1:Nat):Int)=((a+1*(k+1):Nat):Int):=by omega
    rw [e0];simp only [gU,oD,ax yP,ak,cond_true,cond_false,az,SG,decide_true,bS,Bool.not_true,Option.bind_some,e1,ez,aE (show k<4611686018427387904 by omega)])
   unfold cH;have hl:aG gU (l,((a+1*0:Nat):Int),(0:Int),())=_:=hl;rw [Nat.mul_zero,Nat.add_zero] at hl;rw [hl];rfl
theorem Ni (cu:Int) (bp:aH) (a:Nat) (h1:List.length bp≤268435456) (ha:a≤274877906944):∃l1,kE cu bp ((a:Nat):Int)=some (((a+1*List.length bp:Nat):Int),l1,())∧mf cu l1 ((a:Nat):Int)=some (((a+1*List.length bp:Nat):Int),())∧List.length l1=List.length bp:=by
 obtain ⟨l1,e0,g0,nl1⟩:=xV bp (a) h1 (by omega);refine ⟨l1,?_,?_,nl1⟩
 ·simp only [kE,e0,Option.bind_some]<;>rfl
 ·simp only [mf,g0,Option.bind_some,cond_false,ai (show ¬((a+1*List.length bp:Nat):Int)<0 by omega)]
noncomputable def Ck (n:Nat):uN:=(((n+0:Nat):Int),((n+1:Nat):Int),((n+2:Nat):Int),((n+3:Nat):Int),tn (n+4),())
def J7 (n a:Nat) {B:Type}:Sum ((bJ)×Int×Unit) B→Prop
 |.inl y=>y.2.1=((a+5*n:Nat):Int)∧y.1.length=n∧∀j,j<n→y.1[j]?=some (Ck (a+5*j))
 |.inr _=>False
theorem R6 (xs:bJ) (a:Nat) (h:List.length xs≤268435456) (ha:a≤549755813888):∃l,nN xs ((a:Nat):Int)=some (((a+5*List.length xs:Nat):Int),l,())∧List.length l=List.length xs:=by
 obtain ⟨e,he,hq⟩:=dw (round:=iT) (x:=(xs,((a:Nat):Int),((0:Nat):Int),())) xs.length (fun k x=>∃l:bJ,x=(l,((a+5*k:Nat):Int),((k:Nat):Int),())∧l.length=xs.length∧∀j,j<k→l[j]?=some (Ck (a+5*j)))
  (J7 xs.length a) (by
  rintro x ⟨l,rfl,hl,hj⟩
  refine ⟨.inl (l,((a+5*xs.length:Nat):Int),()),?_,rfl,hl,hj⟩;simp only [iT,nM,hl,aC,cond_false]) (by
  rintro k x hk ⟨l,rfl,hl,hj⟩
  have yP:k<l.length:=by omega
  refine .inr ⟨_,?_,l.set k (Ck (a+5*k)),rfl,by simp [hl],fun j VI => ?_⟩
  ·have e0:((a+5*k:Nat):Int)=((a+5*k+0:Nat):Int):=rfl;have e1:IntKind.i64.wrap (((a+5*k+0:Nat):Int)+(1:Int))=((a+5*k+1:Nat):Int):=by rw [du]<;>omega
   have e2:IntKind.i64.wrap (((a+5*k+1:Nat):Int)+(1:Int))=((a+5*k+2:Nat):Int):=by rw [du]<;>omega
   have e3:IntKind.i64.wrap (((a+5*k+2:Nat):Int)+(1:Int))=((a+5*k+3:Nat):Int):=by rw [du]<;>omega
   have e4:IntKind.i64.wrap (((a+5*k+3:Nat):Int)+(1:Int))=((a+5*k+4:Nat):Int):=by rw [du]<;>omega
   have e5:IntKind.i64.wrap (((a+5*k+4:Nat):Int)+(1:Int))=((a+5*k+5:Nat):Int):=by rw [du]<;>omega
   have ez:((a+5*k+5:Nat):Int)=((a+5*(k+1):Nat):Int):=by omega
   rw [e0];simp only [iT,nM,ax yP,ak,cond_true,az,List.length_set,cS yP,List.getElem?_eq_getElem yP,List.getElem?_set_self yP,List.set_set,Option.bind_some,qZ (show a+5*k+4<1099511627776 by omega),e1,e2,e3,e4,e5,ez,aE (show k<4611686018427387904 by omega)];rfl
  ·rw [List.getElem?_set]
   by_cases x8:k=j
   ·subst x8;rw [if_pos rfl,if_pos yP]
   ·rw [if_neg x8];exact hj j (by omega)) ⟨xs,rfl,rfl,fun j hj=>by omega⟩
 cases e with
 |inr e=>exact hq.elim
 |inl e=>
  obtain ⟨q1,q2,q3⟩:=hq;obtain ⟨l,m,u⟩:=e;simp only at q1 q2 q3;subst q1;refine ⟨l,?_,q2⟩
  ·unfold nN;rw [show (0:Int)=((0:Nat):Int) from rfl,he];rfl
noncomputable def Cl (n:Nat):pI:=(((n+0:Nat):Int),((n+1:Nat):Int),((n+2:Nat):Int),tn (n+3),())
def J8 (n a:Nat) {B:Type}:Sum ((ah)×Int×Unit) B→Prop
 |.inl y=>y.2.1=((a+4*n:Nat):Int)∧y.1.length=n∧∀j,j<n→y.1[j]?=some (Cl (a+4*j))
 |.inr _=>False
theorem E1 (xs:ah) (a:Nat) (h:List.length xs≤268435456) (ha:a≤549755813888):∃l,jG xs ((a:Nat):Int)=some (((a+4*List.length xs:Nat):Int),l,())∧fO l ((a:Nat):Int)=some (((a+4*List.length xs:Nat):Int),())∧List.length l=List.length xs:=by
 obtain ⟨e,he,hq⟩:=dw (round:=iU) (x:=(xs,((a:Nat):Int),((0:Nat):Int),())) xs.length (fun k x=>∃l:ah,x=(l,((a+4*k:Nat):Int),((k:Nat):Int),())∧l.length=xs.length∧∀j,j<k→l[j]?=some (Cl (a+4*j)))
  (J8 xs.length a) (by
  rintro x ⟨l,rfl,hl,hj⟩
  refine ⟨.inl (l,((a+4*xs.length:Nat):Int),()),?_,rfl,hl,hj⟩;simp only [iU,nO,hl,aC,cond_false]) (by
  rintro k x hk ⟨l,rfl,hl,hj⟩
  have yP:k<l.length:=by omega
  refine .inr ⟨_,?_,l.set k (Cl (a+4*k)),rfl,by simp [hl],fun j VI => ?_⟩
  ·have e0:((a+4*k:Nat):Int)=((a+4*k+0:Nat):Int):=rfl;have e1:IntKind.i64.wrap (((a+4*k+0:Nat):Int)+(1:Int))=((a+4*k+1:Nat):Int):=by rw [du]<;>omega
   have e2:IntKind.i64.wrap (((a+4*k+1:Nat):Int)+(1:Int))=((a+4*k+2:Nat):Int):=by rw [du]<;>omega
   have e3:IntKind.i64.wrap (((a+4*k+2:Nat):Int)+(1:Int))=((a+4*k+3:Nat):Int):=by rw [du]<;>omega
   have e4:IntKind.i64.wrap (((a+4*k+3:Nat):Int)+(1:Int))=((a+4*k+4:Nat):Int):=by rw [du]<;>omega
   have ez:((a+4*k+4:Nat):Int)=((a+4*(k+1):Nat):Int):=by omega
   rw [e0];simp only [iU,nO,ax yP,ak,cond_true,az,List.length_set,cS yP,List.getElem?_eq_getElem yP,List.getElem?_set_self yP,List.set_set,Option.bind_some,qZ (show a+4*k+3<1099511627776 by omega),e1,e2,e3,e4,ez,aE (show k<4611686018427387904 by omega)];rfl
  ·rw [List.getElem?_set]
   by_cases x8:k=j
   ·subst x8;rw [if_pos rfl,if_pos yP]
   ·rw [if_neg x8];exact hj j (by omega)) ⟨xs,rfl,rfl,fun j hj=>by omega⟩
 cases e with
 |inr e=>exact hq.elim
 |inl e=>
  obtain ⟨q1,q2,q3⟩:=hq;obtain ⟨l,m,u⟩:=e;simp only at q1 q2 q3;subst q1;refine ⟨l,?_,?_,q2⟩
  ·unfold jG;rw [show (0:Int)=((0:Nat):Int) from rfl,he];rfl
  ·have hl:=bD (round:=fX) (e:=.inl (((a+4*xs.length:Nat):Int),())) xs.length (fun k=>(l,((a+4*k:Nat):Int),((k:Nat):Int),())) (by
    simp only [fX,nR,q2,aC,cond_false]) (fun k hk=>by
    have yP:k<l.length:=by omega
    have SG:l[k]?=some (((a+4*k+0:Nat):Int),((a+4*k+1:Nat):Int),((a+4*k+2:Nat):Int),tn (a+4*k+3),()):=q3 k hk;have e0:((a+4*k:Nat):Int)=((a+4*k+0:Nat):Int):=rfl;have e1:IntKind.i64.wrap (((a+4*k+0:Nat):Int)+(1:Int))=((a+4*k+1:Nat):Int):=by rw [du]<;>omega
    have e2:IntKind.i64.wrap (((a+4*k+1:Nat):Int)+(1:Int))=((a+4*k+2:Nat):Int):=by rw [du]<;>omega
    have e3:IntKind.i64.wrap (((a+4*k+2:Nat):Int)+(1:Int))=((a+4*k+3:Nat):Int):=by rw [du]<;>omega
    have e4:IntKind.i64.wrap (((a+4*k+3:Nat):Int)+(1:Int))=((a+4*k+4:Nat):Int):=by rw [du]<;>omega
    have ez:((a+4*k+4:Nat):Int)=((a+4*(k+1):Nat):Int):=by omega
    rw [e0];simp only [fX,nR,ax yP,ak,cond_true,cond_false,az,SG,decide_true,bS,Bool.not_true,Option.bind_some,qZ (show a+4*k+3<1099511627776 by omega),e1,e2,e3,e4,ez,aE (show k<4611686018427387904 by omega)])
   unfold fO;have hl:aG fX (l,((a+4*0:Nat):Int),(0:Int),())=_:=hl;rw [Nat.mul_zero,Nat.add_zero] at hl;rw [hl];rfl
noncomputable def xv (n:Nat):ByteArray×Unit:=(tn (n+0),())
def FT (n a:Nat) {B:Type}:Sum ((gW)×Int×Unit) B→Prop
 |.inl y=>y.2.1=((a+1*n:Nat):Int)∧y.1.length=n∧∀j,j<n→y.1[j]?=some (xv (a+1*j))
 |.inr _=>False
theorem L7 (xs:gW) (a:Nat) (h:List.length xs≤268435456) (ha:a≤549755813888):∃l,lP xs ((a:Nat):Int)=some (((a+1*List.length xs:Nat):Int),l,())∧jH l ((a:Nat):Int)=some (((a+1*List.length xs:Nat):Int),())∧List.length l=List.length xs:=by
 obtain ⟨e,he,hq⟩:=dw (round:=gr) (x:=(xs,((a:Nat):Int),((0:Nat):Int),())) xs.length (fun k x=>∃l:gW,x=(l,((a+1*k:Nat):Int),((k:Nat):Int),())∧l.length=xs.length∧∀j,j<k→l[j]?=some (xv (a+1*j)))
  (FT xs.length a) (by
  rintro x ⟨l,rfl,hl,hj⟩
  refine ⟨.inl (l,((a+1*xs.length:Nat):Int),()),?_,rfl,hl,hj⟩;simp only [gr,lV,hl,aC,cond_false]) (by
  rintro k x hk ⟨l,rfl,hl,hj⟩
  have yP:k<l.length:=by omega
  refine .inr ⟨_,?_,l.set k (xv (a+1*k)),rfl,by simp [hl],fun j VI => ?_⟩
  ·have e0:((a+1*k:Nat):Int)=((a+1*k+0:Nat):Int):=rfl;have e1:IntKind.i64.wrap (((a+1*k+0:Nat):Int)+(1:Int))=((a+1*k+1:Nat):Int):=by rw [du]<;>omega
   have ez:((a+1*k+1:Nat):Int)=((a+1*(k+1):Nat):Int):=by omega
   rw [e0];simp only [gr,lV,ax yP,ak,cond_true,az,List.length_set,cS yP,List.getElem?_eq_getElem yP,List.getElem?_set_self yP,List.set_set,Option.bind_some,qZ (show a+1*k+0<1099511627776 by omega),e1,ez,aE (show k<4611686018427387904 by omega)];rfl
  ·rw [List.getElem?_set]
   by_cases x8:k=j
   ·subst x8;rw [if_pos rfl,if_pos yP]
   ·rw [if_neg x8];exact hj j (by omega)) ⟨xs,rfl,rfl,fun j hj=>by omega⟩
 cases e with
 |inr e=>exact hq.elim
 |inl e=>
  obtain ⟨q1,q2,q3⟩:=hq;obtain ⟨l,m,u⟩:=e;simp only at q1 q2 q3;subst q1;refine ⟨l,?_,?_,q2⟩
  ·unfold lP;rw [show (0:Int)=((0:Nat):Int) from rfl,he];rfl
  ·have hl:=bD (round:=eR) (e:=.inl (((a+1*xs.length:Nat):Int),())) xs.length (fun k=>(l,((a+1*k:Nat):Int),((k:Nat):Int),())) (by
    simp only [eR,lW,q2,aC,cond_false]) (fun k hk=>by
    have yP:k<l.length:=by omega
    have SG:l[k]?=some (tn (a+1*k+0),()):=q3 k hk;have e0:((a+1*k:Nat):Int)=((a+1*k+0:Nat):Int):=rfl;have e1:IntKind.i64.wrap (((a+1*k+0:Nat):Int)+(1:Int))=((a+1*k+1:Nat):Int):=by rw [du]<;>omega
    have ez:((a+1*k+1:Nat):Int)=((a+1*(k+1):Nat):Int):=by omega
    rw [e0];simp only [eR,lW,ax yP,ak,cond_true,cond_false,az,SG,decide_true,bS,Bool.not_true,Option.bind_some,qZ (show a+1*k+0<1099511627776 by omega),e1,ez,aE (show k<4611686018427387904 by omega)])
   unfold jH;have hl:aG eR (l,((a+1*0:Nat):Int),(0:Int),())=_:=hl;rw [Nat.mul_zero,Nat.add_zero] at hl;rw [hl];rfl
def aq (x:ar):Nat:=1+1+1*List.length x.2.2.1+4*List.length x.2.2.2.1+1*List.length x.2.2.2.2.1+1*List.length x.q.1+1+1+1+1+1+1+1+1+1+1*List.length x.q.q.q.1
theorem nU (x:ar):aq x≤11*(1+aD x):=by
 unfold aq aD;omega
theorem m7 (xs:List (ar)):wl aq xs≤11*(List.length xs+wl aD xs):=Bc _ _ 11 nU xs
def Be (x:ar) (n:Nat) (y:ar):Prop:=y.1=((n:Nat):Int)∧y.2.1=((n+1:Nat):Int)∧cH y.2.2.1 ((n+1+1:Nat):Int)=some (((n+1+1+1*List.length x.2.2.1:Nat):Int),())∧fO y.2.2.2.1 ((n+1+1+1*List.length x.2.2.1:Nat):Int)=some (((n+1+1+1*List.length x.2.2.1+4*List.length x.2.2.2.1:Nat):Int),())∧cH y.2.2.2.2.1 ((n+1+1+1*List.length x.2.2.1+4*List.length x.2.2.2.1:Nat):Int)=some (((n+1+1+1*List.length x.2.2.1+4*List.length x.2.2.2.1+1*List.length x.2.2.2.2.1:Nat):Int),())∧jH y.q.1 ((n+1+1+1*List.length x.2.2.1+4*List.length x.2.2.2.1+1*List.length x.2.2.2.2.1:Nat):Int)=some (((n+1+1+1*List.length x.2.2.1+4*List.length x.2.2.2.1+1*List.length x.2.2.2.2.1+1*List.length x.q.1:Nat):Int),())∧y.q.2.1=((n+1+1+1*List.length x.2.2.1+4*List.length x.2.2.2.1+1*List.length x.2.2.2.2.1+1*List.length x.q.1:Nat):Int)∧y.q.2.2.1=((n+1+1+1*List.length x.2.2.1+4*List.length x.2.2.2.1+1*List.length x.2.2.2.2.1+1*List.length x.q.1+1:Nat):Int)∧y.q.2.2.2.1=((n+1+1+1*List.length x.2.2.1+4*List.length x.2.2.2.1+1*List.length x.2.2.2.2.1+1*List.length x.q.1+1+1:Nat):Int)∧y.q.2.2.2.2.1=((n+1+1+1*List.length x.2.2.1+4*List.length x.2.2.2.1+1*List.length x.2.2.2.2.1+1*List.length x.q.1+1+1+1:Nat):Int)∧y.q.q.1=((n+1+1+1*List.length x.2.2.1+4*List.length x.2.2.2.1+1*List.length x.2.2.2.2.1+1*List.length x.q.1+1+1+1+1:Nat):Int)∧y.q.q.2.1=((n+1+1+1*List.length x.2.2.1+4*List.length x.2.2.2.1+1*List.length x.2.2.2.2.1+1*List.length x.q.1+1+1+1+1+1:Nat):Int)∧y.q.q.2.2.1=((n+1+1+1*List.length x.2.2.1+4*List.length x.2.2.2.1+1*List.length x.2.2.2.2.1+1*List.length x.q.1+1+1+1+1+1+1:Nat):Int)∧y.q.q.2.2.2.1=((n+1+1+1*List.length x.2.2.1+4*List.length x.2.2.2.1+1*List.length x.2.2.2.2.1+1*List.length x.q.1+1+1+1+1+1+1+1:Nat):Int)∧y.q.q.2.2.2.2.1=((n+1+1+1*List.length x.2.2.1+4*List.length x.2.2.2.1+1*List.length x.2.2.2.2.1+1*List.length x.q.1+1+1+1+1+1+1+1+1:Nat):Int)∧cH y.q.q.q.1 ((n+1+1+1*List.length x.2.2.1+4*List.length x.2.2.2.1+1*List.length x.2.2.2.2.1+1*List.length x.q.1+1+1+1+1+1+1+1+1+1:Nat):Int)=some (((n+1+1+1*List.length x.2.2.1+4*List.length x.2.2.2.1+1*List.length x.2.2.2.2.1+1*List.length x.q.1+1+1+1+1+1+1+1+1+1+1*List.length x.q.q.q.1:Nat):Int),())
set_option maxHeartbeats 4000000 in
theorem R7 (l:List (ar)) (k:Nat) (z:ar) (n:Nat) (hk:k<l.length) (R8:k<4611686018427387904) (hz:l[k]?=some z) (hw:aD z≤268435456) (hn:n+aq z≤277830696960):∃y,Be z n y∧fW (l,((n:Nat):Int),((k:Nat):Int),())=some (.inl (l.set k y,((n+aq z:Nat):Int),((k+1:Nat):Int),())):=by
 have hm:n+1+1+1*List.length z.2.2.1+4*List.length z.2.2.2.1+1*List.length z.2.2.2.2.1+1*List.length z.q.1+1+1+1+1+1+1+1+1+1+1*List.length z.q.q.q.1=n+aq z:=by unfold aq;omega
 have b0:n≤549755813888:=by omega
 have b1:n+1≤549755813888:=by omega
 have b2:n+1+1≤549755813888:=by omega
 have b3:n+1+1+1*List.length z.2.2.1≤549755813888:=by omega
 have b4:n+1+1+1*List.length z.2.2.1+4*List.length z.2.2.2.1≤549755813888:=by omega
 have b5:n+1+1+1*List.length z.2.2.1+4*List.length z.2.2.2.1+1*List.length z.2.2.2.2.1≤549755813888:=by omega
 have b6:n+1+1+1*List.length z.2.2.1+4*List.length z.2.2.2.1+1*List.length z.2.2.2.2.1+1*List.length z.q.1≤549755813888:=by omega
 have b7:n+1+1+1*List.length z.2.2.1+4*List.length z.2.2.2.1+1*List.length z.2.2.2.2.1+1*List.length z.q.1+1≤549755813888:=by omega
 have b8:n+1+1+1*List.length z.2.2.1+4*List.length z.2.2.2.1+1*List.length z.2.2.2.2.1+1*List.length z.q.1+1+1≤549755813888:=by omega
 have b9:n+1+1+1*List.length z.2.2.1+4*List.length z.2.2.2.1+1*List.length z.2.2.2.2.1+1*List.length z.q.1+1+1+1≤549755813888:=by omega
 have ZK:n+1+1+1*List.length z.2.2.1+4*List.length z.2.2.2.1+1*List.length z.2.2.2.2.1+1*List.length z.q.1+1+1+1+1≤549755813888:=by omega
 have Up:n+1+1+1*List.length z.2.2.1+4*List.length z.2.2.2.1+1*List.length z.2.2.2.2.1+1*List.length z.q.1+1+1+1+1+1≤549755813888:=by omega
 have b12:n+1+1+1*List.length z.2.2.1+4*List.length z.2.2.2.1+1*List.length z.2.2.2.2.1+1*List.length z.q.1+1+1+1+1+1+1≤549755813888:=by omega
 have b13:n+1+1+1*List.length z.2.2.1+4*List.length z.2.2.2.1+1*List.length z.2.2.2.2.1+1*List.length z.q.1+1+1+1+1+1+1+1≤549755813888:=by omega
 have b14:n+1+1+1*List.length z.2.2.1+4*List.length z.2.2.2.1+1*List.length z.2.2.2.2.1+1*List.length z.q.1+1+1+1+1+1+1+1+1≤549755813888:=by omega
 have b15:n+1+1+1*List.length z.2.2.1+4*List.length z.2.2.2.1+1*List.length z.2.2.2.2.1+1*List.length z.q.1+1+1+1+1+1+1+1+1+1≤549755813888:=by omega
 have hw0:aD z=(List.length z.2.2.1+wl mW z.2.2.1)+(List.length z.2.2.2.1+wl dA z.2.2.2.1)+(List.length z.2.2.2.2.1+wl mW z.2.2.2.2.1)+(List.length z.q.1+wl R2 z.q.1)+(List.length z.q.q.q.1+wl mW z.q.q.q.1):=rfl;obtain ⟨l2,e2,g2,_⟩:=xV z.2.2.1 (n+1+1) (by omega) (by omega);obtain ⟨l3,e3,g3,_⟩:=E1 z.2.2.2.1 (n+1+1+1*List.length z.2.2.1) (by omega) (by omega);obtain ⟨l4,e4,g4,_⟩:=xV z.2.2.2.2.1 (n+1+1+1*List.length z.2.2.1+4*List.length z.2.2.2.1) (by omega) (by omega);obtain ⟨l5,e5,g5,_⟩:=L7 z.q.1 (n+1+1+1*List.length z.2.2.1+4*List.length z.2.2.2.1+1*List.length z.2.2.2.2.1) (by omega) (by omega);obtain ⟨l15,e15,g15,_⟩:=xV z.q.q.q.1 (n+1+1+1*List.length z.2.2.1+4*List.length z.2.2.2.1+1*List.length z.2.2.2.2.1+1*List.length z.q.1+1+1+1+1+1+1+1+1+1) (by omega) (by omega);refine ⟨(((n:Nat):Int),((n+1:Nat):Int),l2,l3,l4,l5,((n+1+1+1*List.length z.2.2.1+4*List.length z.2.2.2.1+1*List.length z.2.2.2.2.1+1*List.length z.q.1:Nat):Int),((n+1+1+1*List.length z.2.2.1+4*List.length z.2.2.2.1+1*List.length z.2.2.2.2.1+1*List.length z.q.1+1:Nat):Int),((n+1+1+1*List.length z.2.2.1+4*List.length z.2.2.2.1+1*List.length z.2.2.2.2.1+1*List.length z.q.1+1+1:Nat):Int),((n+1+1+1*List.length z.2.2.1+4*List.length z.2.2.2.1+1*List.length z.2.2.2.2.1+1*List.length z.q.1+1+1+1:Nat):Int),((n+1+1+1*List.length z.2.2.1+4*List.length z.2.2.2.1+1*List.length z.2.2.2.2.1+1*List.length z.q.1+1+1+1+1:Nat):Int),((n+1+1+1*List.length z.2.2.1+4*List.length z.2.2.2.1+1*List.length z.2.2.2.2.1+1*List.length z.q.1+1+1+1+1+1:Nat):Int),((n+1+1+1*List.length z.2.2.1+4*List.length z.2.2.2.1+1*List.length z.2.2.2.2.1+1*List.length z.q.1+1+1+1+1+1+1:Nat):Int),((n+1+1+1*List.length z.2.2.1+4*List.length z.2.2.2.1+1*List.length z.2.2.2.2.1+1*List.length z.q.1+1+1+1+1+1+1+1:Nat):Int),((n+1+1+1*List.length z.2.2.1+4*List.length z.2.2.2.1+1*List.length z.2.2.2.2.1+1*List.length z.q.1+1+1+1+1+1+1+1+1:Nat):Int),l15,()),⟨rfl,rfl,g2,g3,g4,g5,rfl,rfl,rfl,rfl,rfl,rfl,rfl,rfl,rfl,g15⟩,?_⟩;rw [←hm];simp only [fW,nP,ax hk,ak,cond_true,az,List.length_set,cS hk,hz,List.getElem?_set_self hk,List.set_set,Option.bind_some,e2,e3,e4,e5,e15,bY b0,bY b1,bY b6,bY b7,bY b8,bY b9,bY ZK,bY Up,bY b12,bY b13,bY b14,aE R8]
set_option maxHeartbeats 4000000 in
theorem R9 (l:List (ar)) (k:Nat) (z y:ar) (n:Nat) (hk:k<l.length) (R8:k<4611686018427387904) (hy:l[k]?=some y) (hd:Be z n y) (hn:n+aq z≤277830696960):fY (l,((n:Nat):Int),((k:Nat):Int),())=some (.inl (l,((n+aq z:Nat):Int),((k+1:Nat):Int),())):=by
 have hm:n+1+1+1*List.length z.2.2.1+4*List.length z.2.2.2.1+1*List.length z.2.2.2.2.1+1*List.length z.q.1+1+1+1+1+1+1+1+1+1+1*List.length z.q.q.q.1=n+aq z:=by unfold aq;omega
 have b0:n≤549755813888:=by omega
 have b1:n+1≤549755813888:=by omega
 have b2:n+1+1≤549755813888:=by omega
 have b3:n+1+1+1*List.length z.2.2.1≤549755813888:=by omega
 have b4:n+1+1+1*List.length z.2.2.1+4*List.length z.2.2.2.1≤549755813888:=by omega
 have b5:n+1+1+1*List.length z.2.2.1+4*List.length z.2.2.2.1+1*List.length z.2.2.2.2.1≤549755813888:=by omega
 have b6:n+1+1+1*List.length z.2.2.1+4*List.length z.2.2.2.1+1*List.length z.2.2.2.2.1+1*List.length z.q.1≤549755813888:=by omega
 have b7:n+1+1+1*List.length z.2.2.1+4*List.length z.2.2.2.1+1*List.length z.2.2.2.2.1+1*List.length z.q.1+1≤549755813888:=by omega
 have b8:n+1+1+1*List.length z.2.2.1+4*List.length z.2.2.2.1+1*List.length z.2.2.2.2.1+1*List.length z.q.1+1+1≤549755813888:=by omega
 have b9:n+1+1+1*List.length z.2.2.1+4*List.length z.2.2.2.1+1*List.length z.2.2.2.2.1+1*List.length z.q.1+1+1+1≤549755813888:=by omega
 have ZK:n+1+1+1*List.length z.2.2.1+4*List.length z.2.2.2.1+1*List.length z.2.2.2.2.1+1*List.length z.q.1+1+1+1+1≤549755813888:=by omega
 have Up:n+1+1+1*List.length z.2.2.1+4*List.length z.2.2.2.1+1*List.length z.2.2.2.2.1+1*List.length z.q.1+1+1+1+1+1≤549755813888:=by omega
 have b12:n+1+1+1*List.length z.2.2.1+4*List.length z.2.2.2.1+1*List.length z.2.2.2.2.1+1*List.length z.q.1+1+1+1+1+1+1≤549755813888:=by omega
 have b13:n+1+1+1*List.length z.2.2.1+4*List.length z.2.2.2.1+1*List.length z.2.2.2.2.1+1*List.length z.q.1+1+1+1+1+1+1+1≤549755813888:=by omega
 have b14:n+1+1+1*List.length z.2.2.1+4*List.length z.2.2.2.1+1*List.length z.2.2.2.2.1+1*List.length z.q.1+1+1+1+1+1+1+1+1≤549755813888:=by omega
 have b15:n+1+1+1*List.length z.2.2.1+4*List.length z.2.2.2.1+1*List.length z.2.2.2.2.1+1*List.length z.q.1+1+1+1+1+1+1+1+1+1≤549755813888:=by omega
 obtain ⟨h0,h1,h2,h3,h4,h5,h6,h7,h8,h9,h10,h11,h12,h13,h14,h15⟩:=hd;rw [←hm];simp only [fY,nS,ax hk,ak,cond_true,cond_false,az,hy,decide_true,bS,beq_self_eq_true,Bool.not_true,Option.bind_some,h0,h1,h2,h3,h4,h5,h6,h7,h8,h9,h10,h11,h12,h13,h14,h15,bY b0,bY b1,bY b6,bY b7,bY b8,bY b9,bY ZK,bY Up,bY b12,bY b13,bY b14,H7,aE R8]
theorem Sa (xs:List (ar)) (a:Nat) (h:List.length xs+wl aD xs≤268435456) (ha:a≤274877906944):∃l,nQ xs ((a:Nat):Int)=some (((a+wl aq xs:Nat):Int),l,())∧nT l ((a:Nat):Int)=some (((a+wl aq xs:Nat):Int),())∧(List.length l=List.length xs∧wl aq xs≤11*(List.length xs+wl aD xs)):=by
 have hm:=m7 xs;obtain ⟨l,h1,h2,h3⟩:=Ci aq Be fW xs a (fun l m hl=>by simp only [fW,nP,hl,aC,cond_false]) (fun l k hk n hl hz hn=>R7 l k xs[k] n (by omega) (by omega) hz (Nat.le_trans (uM aD xs _ (List.getElem_mem hk)) (by omega)) (by omega));refine ⟨l,?_,?_,h2,hm⟩
 ·unfold nQ;rw [h1];rfl
 ·have h4:=Cj aq Be fY xs l a h2 h3 (fun m=>by simp only [fY,nS,h2,aC,cond_false]) (fun k hk n y ue hy hd hn=>R9 l k xs[k] y n ue (by omega) hy hd (by omega));unfold nT;rw [h4];rfl
def aM (x:bn):Nat:=1+1+1+1+1+1+1+1*List.length x.q.2.2.1+1+1+1+1
theorem Bf (x:bn):aM x≤11*(1+a6 x):=by
 unfold aM a6;omega
theorem zR (xs:List (bn)):wl aM xs≤11*(List.length xs+wl a6 xs):=Bc _ _ 11 Bf xs
def DB (x:bn) (n:Nat) (y:bn):Prop:=y.1=((n:Nat):Int)∧y.2.1=(decide (Int.tmod ((n+1:Nat):Int) (3:Int)=(0:Int)))∧y.2.2.1=((n+1+1:Nat):Int)∧y.2.2.2.1=((n+1+1+1:Nat):Int)∧y.2.2.2.2.1=((n+1+1+1+1:Nat):Int)∧y.q.1=((n+1+1+1+1+1:Nat):Int)∧y.q.2.1=((n+1+1+1+1+1+1:Nat):Int)∧cH y.q.2.2.1 ((n+1+1+1+1+1+1+1:Nat):Int)=some (((n+1+1+1+1+1+1+1+1*List.length x.q.2.2.1:Nat):Int),())∧y.q.2.2.2.1=((n+1+1+1+1+1+1+1+1*List.length x.q.2.2.1:Nat):Int)∧y.q.2.2.2.2.1=((n+1+1+1+1+1+1+1+1*List.length x.q.2.2.1+1:Nat):Int)∧y.q.q.1=((n+1+1+1+1+1+1+1+1*List.length x.q.2.2.1+1+1:Nat):Int)∧y.q.q.2.1=tn (n+1+1+1+1+1+1+1+1*List.length x.q.2.2.1+1+1+1)
theorem Uq (l:List (bn)) (k:Nat) (z:bn) (n:Nat) (hk:k<l.length) (R8:k<4611686018427387904) (hz:l[k]?=some z) (hw:a6 z≤268435456) (hn:n+aM z≤277830696960):∃y,DB z n y∧gT (l,((n:Nat):Int),((k:Nat):Int),())=some (.inl (l.set k y,((n+aM z:Nat):Int),((k+1:Nat):Int),())):=by
 have hm:n+1+1+1+1+1+1+1+1*List.length z.q.2.2.1+1+1+1+1=n+aM z:=by unfold aM;omega
 have b0:n≤549755813888:=by omega
 have b1:n+1≤549755813888:=by omega
 have b2:n+1+1≤549755813888:=by omega
 have b3:n+1+1+1≤549755813888:=by omega
 have b4:n+1+1+1+1≤549755813888:=by omega
 have b5:n+1+1+1+1+1≤549755813888:=by omega
 have b6:n+1+1+1+1+1+1≤549755813888:=by omega
 have b7:n+1+1+1+1+1+1+1≤549755813888:=by omega
 have b8:n+1+1+1+1+1+1+1+1*List.length z.q.2.2.1≤549755813888:=by omega
 have b9:n+1+1+1+1+1+1+1+1*List.length z.q.2.2.1+1≤549755813888:=by omega
 have ZK:n+1+1+1+1+1+1+1+1*List.length z.q.2.2.1+1+1≤549755813888:=by omega
 have Up:n+1+1+1+1+1+1+1+1*List.length z.q.2.2.1+1+1+1≤549755813888:=by omega
 have hw0:a6 z=(List.length z.q.2.2.1+wl mW z.q.2.2.1)+ByteArray.size z.q.q.2.1:=rfl;obtain ⟨l7,e7,g7,_⟩:=xV z.q.2.2.1 (n+1+1+1+1+1+1+1) (by omega) (by omega);refine ⟨(((n:Nat):Int),(decide (Int.tmod ((n+1:Nat):Int) (3:Int)=(0:Int))),((n+1+1:Nat):Int),((n+1+1+1:Nat):Int),((n+1+1+1+1:Nat):Int),((n+1+1+1+1+1:Nat):Int),((n+1+1+1+1+1+1:Nat):Int),l7,((n+1+1+1+1+1+1+1+1*List.length z.q.2.2.1:Nat):Int),((n+1+1+1+1+1+1+1+1*List.length z.q.2.2.1+1:Nat):Int),((n+1+1+1+1+1+1+1+1*List.length z.q.2.2.1+1+1:Nat):Int),tn (n+1+1+1+1+1+1+1+1*List.length z.q.2.2.1+1+1+1),()),⟨rfl,rfl,rfl,rfl,rfl,rfl,rfl,g7,rfl,rfl,rfl,rfl⟩,?_⟩;rw [←hm];simp only [gT,oC,ax hk,ak,cond_true,az,List.length_set,cS hk,hz,List.getElem?_set_self hk,List.set_set,Option.bind_some,e7,bY b0,bY b1,bY b2,bY b3,bY b4,bY b5,bY b6,bY b8,bY b9,bY ZK,bY Up,J6 Up,aE R8]
theorem Ur (l:List (bn)) (k:Nat) (z y:bn) (n:Nat) (hk:k<l.length) (R8:k<4611686018427387904) (hy:l[k]?=some y) (hd:DB z n y) (hn:n+aM z≤277830696960):gV (l,((n:Nat):Int),((k:Nat):Int),())=some (.inl (l,((n+aM z:Nat):Int),((k+1:Nat):Int),())):=by
 have hm:n+1+1+1+1+1+1+1+1*List.length z.q.2.2.1+1+1+1+1=n+aM z:=by unfold aM;omega
 have b0:n≤549755813888:=by omega
 have b1:n+1≤549755813888:=by omega
 have b2:n+1+1≤549755813888:=by omega
 have b3:n+1+1+1≤549755813888:=by omega
 have b4:n+1+1+1+1≤549755813888:=by omega
 have b5:n+1+1+1+1+1≤549755813888:=by omega
 have b6:n+1+1+1+1+1+1≤549755813888:=by omega
 have b7:n+1+1+1+1+1+1+1≤549755813888:=by omega
 have b8:n+1+1+1+1+1+1+1+1*List.length z.q.2.2.1≤549755813888:=by omega
 have b9:n+1+1+1+1+1+1+1+1*List.length z.q.2.2.1+1≤549755813888:=by omega
 have ZK:n+1+1+1+1+1+1+1+1*List.length z.q.2.2.1+1+1≤549755813888:=by omega
 have Up:n+1+1+1+1+1+1+1+1*List.length z.q.2.2.1+1+1+1≤549755813888:=by omega
 obtain ⟨h0,h1,h2,h3,h4,h5,h6,h7,h8,h9,h10,h11⟩:=hd;rw [←hm];simp only [gV,oE,ax hk,ak,cond_true,cond_false,az,hy,decide_true,bS,beq_self_eq_true,Bool.not_true,Option.bind_some,h0,h1,h2,h3,h4,h5,h6,h7,h8,h9,h10,h11,bY b0,bY b1,bY b2,bY b3,bY b4,bY b5,bY b6,bY b8,bY b9,bY ZK,bY Up,J6 Up,H7,aE R8]
theorem Us (xs:List (bn)) (a:Nat) (h:List.length xs+wl a6 xs≤268435456) (ha:a≤274877906944):∃l,oW xs ((a:Nat):Int)=some (((a+wl aM xs:Nat):Int),l,())∧oX l ((a:Nat):Int)=some (((a+wl aM xs:Nat):Int),())∧(List.length l=List.length xs∧wl aM xs≤11*(List.length xs+wl a6 xs)):=by
 have hm:=zR xs;obtain ⟨l,h1,h2,h3⟩:=Ci aM DB gT xs a (fun l m hl=>by simp only [gT,oC,hl,aC,cond_false]) (fun l k hk n hl hz hn=>Uq l k xs[k] n (by omega) (by omega) hz (Nat.le_trans (uM a6 xs _ (List.getElem_mem hk)) (by omega)) (by omega));refine ⟨l,?_,?_,h2,hm⟩
 ·unfold oW;rw [h1];rfl
 ·have h4:=Cj aM DB gV xs l a h2 h3 (fun m=>by simp only [gV,oE,h2,aC,cond_false]) (fun k hk n y ue hy hd hn=>Ur l k xs[k] y n ue (by omega) hy hd (by omega));unfold oX;rw [h4];rfl
def bP (x:ah×Unit):Nat:=4*List.length x.1
theorem Pg (x:ah×Unit):bP x≤4*(1+dK x):=by
 unfold bP dK;omega
theorem L8 (xs:List (ah×Unit)):wl bP xs≤4*(List.length xs+wl dK xs):=Bc _ _ 4 Pg xs
def ub (x:ah×Unit) (n:Nat) (y:ah×Unit):Prop:=fO y.1 ((n:Nat):Int)=some (((n+4*List.length x.1:Nat):Int),())
theorem Ph (l:List (ah×Unit)) (k:Nat) (z:ah×Unit) (n:Nat) (hk:k<l.length) (R8:k<4611686018427387904) (hz:l[k]?=some z) (hw:dK z≤268435456) (hn:n+bP z≤275951648768):∃y,ub z n y∧fy (l,((n:Nat):Int),((k:Nat):Int),())=some (.inl (l.set k y,((n+bP z:Nat):Int),((k+1:Nat):Int),())):=by
 have hm:n+4*List.length z.1=n+bP z:=by unfold bP;omega
 have b0:n≤549755813888:=by omega
 have hw0:dK z=(List.length z.1+wl dA z.1):=rfl;obtain ⟨l0,e0,g0,_⟩:=E1 z.1 (n) (by omega) (by omega);refine ⟨(l0,()),g0,?_⟩;rw [←hm];simp only [fy,mH,ax hk,ak,cond_true,az,List.length_set,cS hk,hz,List.getElem?_set_self hk,List.set_set,Option.bind_some,e0,aE R8]
theorem Pj (l:List (ah×Unit)) (k:Nat) (z y:ah×Unit) (n:Nat) (hk:k<l.length) (R8:k<4611686018427387904) (hy:l[k]?=some y) (hd:ub z n y) (hn:n+bP z≤275951648768):fA (l,((n:Nat):Int),((k:Nat):Int),())=some (.inl (l,((n+bP z:Nat):Int),((k+1:Nat):Int),())):=by
 have hm:n+4*List.length z.1=n+bP z:=by unfold bP;omega
 have b0:n≤549755813888:=by omega
 unfold ub at hd;have h0:=hd;rw [←hm];simp only [fA,mI,ax hk,ak,cond_true,cond_false,az,hy,decide_true,bS,beq_self_eq_true,Bool.not_true,Option.bind_some,h0,H7,aE R8]
theorem Pk (xs:List (ah×Unit)) (a:Nat) (h:List.length xs+wl dK xs≤268435456) (ha:a≤274877906944):∃l,my xs ((a:Nat):Int)=some (((a+wl bP xs:Nat):Int),l,())∧mz l ((a:Nat):Int)=some (((a+wl bP xs:Nat):Int),())∧(List.length l=List.length xs∧wl bP xs≤4*(List.length xs+wl dK xs)):=by
 have hm:=L8 xs;obtain ⟨l,h1,h2,h3⟩:=Ci bP ub fy xs a (fun l m hl=>by simp only [fy,mH,hl,aC,cond_false]) (fun l k hk n hl hz hn=>Ph l k xs[k] n (by omega) (by omega) hz (Nat.le_trans (uM dK xs _ (List.getElem_mem hk)) (by omega)) (by omega));refine ⟨l,?_,?_,h2,hm⟩
 ·unfold my;rw [h1];rfl
 ·have h4:=Cj bP ub fA xs l a h2 h3 (fun m=>by simp only [fA,mI,h2,aC,cond_false]) (fun k hk n y ue hy hd hn=>Pj l k xs[k] y n ue (by omega) hy hd (by omega));unfold mz;rw [h4];rfl
theorem Ut (cu:Int) (bp:aH) (cw:aa) (cB:ae) (cP:aA) (fL:ah) (a:Nat) (h1:List.length bp≤268435456) (h2:List.length cw+wl aD cw≤268435456) (h3:List.length cB+wl a6 cB≤268435456) (h4:List.length cP+wl dK cP≤268435456) (h5:List.length fL≤268435456) (ha:a≤137438953472):∃l1 l2 l3 l4 l5,me cu bp cw cB cP fL ((a:Nat):Int)=some (((a+1*List.length bp+wl aq cw+wl aM cB+wl bP cP+4*List.length fL:Nat):Int),l1,l2,l3,l4,l5,())∧kF cu l1 l2 l3 l4 l5 ((a:Nat):Int)=some (((a+1*List.length bp+wl aq cw+wl aM cB+wl bP cP+4*List.length fL:Nat):Int),())∧List.length l1=List.length bp∧(List.length l2=List.length cw∧wl aq cw≤11*(List.length cw+wl aD cw))∧(List.length l3=List.length cB∧wl aM cB≤11*(List.length cB+wl a6 cB))∧(List.length l4=List.length cP∧wl bP cP≤4*(List.length cP+wl dK cP))∧List.length l5=List.length fL:=by
 obtain ⟨l1,e0,g0,nl1⟩:=Ni cu bp (a) h1 (by omega);obtain ⟨l2,e1,g1,nl2⟩:=Sa cw (a+1*List.length bp) h2 (by omega);obtain ⟨l3,e2,g2,nl3⟩:=Us cB (a+1*List.length bp+wl aq cw) h3 (by omega);obtain ⟨l4,e3,g3,nl4⟩:=Pk cP (a+1*List.length bp+wl aq cw+wl aM cB) h4 (by omega);obtain ⟨l5,e4,g4,nl5⟩:=E1 fL (a+1*List.length bp+wl aq cw+wl aM cB+wl bP cP) h5 (by omega);refine ⟨l1,l2,l3,l4,l5,?_,?_,nl1,nl2,nl3,nl4,nl5⟩
 ·simp only [me,e0,e1,e2,e3,e4,Option.bind_some]<;>rfl
 ·simp only [kF,g0,g1,g2,g3,g4,Option.bind_some,cond_false,ai (show ¬((a+1*List.length bp:Nat):Int)<0 by omega),ai (show ¬((a+1*List.length bp+wl aq cw:Nat):Int)<0 by omega),ai (show ¬((a+1*List.length bp+wl aq cw+wl aM cB:Nat):Int)<0 by omega),ai (show ¬((a+1*List.length bp+wl aq cw+wl aM cB+wl bP cP:Nat):Int)<0 by omega),ai (show ¬((a+1*List.length bp+wl aq cw+wl aM cB+wl bP cP+4*List.length fL:Nat):Int)<0 by omega)]
end Go.TM
set_option linter.unusedSimpArgs false
set_option linter.unusedVariables false
namespace Go.TM
open Go
theorem n5 (a b c:Int):bH a b c=some (decide (b≤a)&&decide (a≤c),()):=by
 unfold bH
 cases decide (b≤a)<;>rfl
theorem sn (a b c:Int):bM a b c=some (decide (b≤a)&&decide (a≤c),()):=by
 unfold bM
 cases decide (b≤a)<;>rfl
theorem q7 (a:Int):jg a=some (decide (1≤a)&&decide (a≤5),()):=by
 unfold jg;rw [sn];rfl
def DC {A B:Type}:Sum A (Bool×Unit)→Sum B (Bool×Unit)→Prop
 |.inl _,.inl _=>True
 |.inr a,.inr b=>a.1=b.1
 |_,_=>False
theorem q8 {k:Nat} (h0:0<k) (h:k<4611686018427387904):IntKind.i64.wrap (((k:Nat):Int)-(1:Int))=(((k-1:Nat)):Int):=by
 rw [du]<;>omega
theorem Pn (c:Int) (xs:List (Int×Unit)) (h:xs.length≤1048576) :
  ∃e f,aG eL (c,xs,(0:Int),())=some e∧aG lq (c,xs,xs,((List.length xs:Nat):Int),(0:Int),())=some f∧DC e f:=by
 refine nt xs.length (fun k x y=>x=(c,xs,((k:Nat):Int),())∧y=(c,xs,xs,((List.length xs:Nat):Int),((k:Nat):Int),())) DC ?_ ⟨rfl,rfl⟩
 rintro k x y hk ⟨rfl,rfl⟩
 by_cases bQ:k<xs.length
 ·simp only [eL,lh,lq,rW,ax bQ,ak,cond_true,az,List.getElem?_eq_getElem bQ,Option.bind_some,n5,q7,aE (show k<4611686018427387904 by omega)]
  cases (decide (1≤xs[k].1)&&decide (xs[k].1≤5))
  ·exact .inl ⟨.inr (false,()),.inr (false,()),rfl,rfl,rfl⟩
  ·by_cases h0:0<k
   ·have hp:k-1<xs.length:=by omega
    rw [q8 h0 (by omega)];simp only [af (show (0:Int)<((k:Nat):Int) by omega),Bool.not_true,cond_false,cond_true,ak,az,List.getElem?_eq_getElem hp,Option.bind_some]
    cases decide (xs[k].1≤xs[k-1].1)
    ·exact .inr ⟨bQ,_,_,rfl,rfl,rfl,rfl⟩
    ·exact .inl ⟨.inr (false,()),.inr (false,()),rfl,rfl,rfl⟩
   ·have:k=0:=by omega
    subst this;simp only [ai (show ¬(0:Int)<((0:Nat):Int) by omega),Bool.not_true,cond_false];exact .inr ⟨bQ,_,_,rfl,rfl,rfl,rfl⟩
 ·have:k=xs.length:=by omega
  subst this;exact .inl ⟨.inl (),.inl (),by simp only [eL,lh,aC,cond_false],by simp only [lq,rW,aC,cond_false],trivial⟩
theorem Cm (c:Int) (xs:List (Int×Unit)) (h:xs.length≤1048576):∃b,db c xs=some (b,())∧eX c xs=some (b,())∧(b=true→1≤xs.length∧xs.length≤5):=by
 obtain ⟨e,f,h1,h2,h3⟩:=Pn c xs h;unfold db eX;simp only [n5,sn,Option.bind_some,h1,h2]
 cases (decide (1≤c)&&decide (c≤9))
 ·exact ⟨false,rfl,rfl,fun h=>by cases h⟩
 cases hb:(decide (1≤((List.length xs:Nat):Int))&&decide (((List.length xs:Nat):Int)≤5))
 ·exact ⟨false,rfl,rfl,fun h=>by cases h⟩
 have hl:1≤xs.length∧xs.length≤5:=by
  rw [Bool.and_eq_true,decide_eq_true_eq,decide_eq_true_eq] at hb;omega
 cases e with
 |inl e=>cases f with
  |inl f=>exact ⟨true,rfl,rfl,fun _=>hl⟩
  |inr f=>exact h3.elim
 |inr e=>cases f with
  |inl f=>exact h3.elim
  |inr f=>exact ⟨e.1,rfl,by rw [show e.1=f.1 from h3];rfl,fun _=>hl⟩
end Go.TM
set_option linter.unusedSimpArgs false
set_option linter.unusedVariables false
namespace Go.TM
open Go
def VJ (e:Sum Unit (Bool×Unit)) (f:Sum Unit (Int×Unit)):Prop:=∃b,(e=.inl ()∧f=.inl ()∧b=false)∨(e=.inr (true,())∧(∃k:Nat,f=.inr (((k:Nat):Int),()))∧b=true)
theorem Uu (d:Int) (xs:List (Int×Unit)) (h:xs.length≤1048576) :
  ∃e f,aG cZ (xs,d,(0:Int),())=some e∧aG bB (xs,d,((List.length xs:Nat):Int),(0:Int),())=some f∧VJ e f:=by
 refine nt xs.length (fun k x y=>x=(xs,d,((k:Nat):Int),())∧y=(xs,d,((List.length xs:Nat):Int),((k:Nat):Int),())) VJ ?_ ⟨rfl,rfl⟩
 rintro k x y hk ⟨rfl,rfl⟩
 by_cases bQ:k<xs.length
 ·simp only [cZ,jf,bB,dR,ax bQ,ak,cond_true,az,List.getElem?_eq_getElem bQ,Option.bind_some,aE (show k<4611686018427387904 by omega)]
  by_cases hd:xs[k].1=d
  ·rw [af hd,af hd.symm];exact .inl ⟨.inr (true,()),.inr (((k:Nat):Int),()),rfl,rfl,true,.inr ⟨rfl,⟨k,rfl⟩,rfl⟩⟩
  ·rw [ai hd,ai (fun e=>hd e.symm)];exact .inr ⟨bQ,_,_,rfl,rfl,rfl,rfl⟩
 ·have:k=xs.length:=by omega
  subst this;exact .inl ⟨.inl (),.inl (),by simp only [cZ,jf,aC,cond_false],by simp only [bB,dR,aC,cond_false],false,.inl ⟨rfl,rfl,rfl⟩⟩
theorem tp (d:Int) (xs:List (Int×Unit)) (h:xs.length≤1048576):∃b,eo xs d=some (b,())∧cn xs d=some (b,()):=by
 obtain ⟨e,f,h1,h2,b,h3⟩:=Uu d xs h;unfold eo cn jz;rw [h1,h2];rcases h3 with ⟨rfl,rfl,rfl⟩ | ⟨rfl,⟨k,rfl⟩,rfl⟩
 ·exact ⟨false,rfl,rfl⟩
 ·refine ⟨true,rfl,?_⟩;simp only [bO,Option.bind_some,ak]
end Go.TM
set_option linter.unusedSimpArgs false
set_option linter.unusedVariables false
namespace Go.TM
open Go
def Sb (t:Int×Int×Int×Int×Int×(List (Int×Unit))×Unit):Sum Unit (Bool×Unit)→Sum (Int×Int×Int×Int×Int×(List (Int×Unit))×Unit) (Bool×Unit)→Prop
 |.inl _,.inl z=>z=t
 |.inr a,.inr b=>a.1=false∧b.1=false
 |_,_=>False
theorem L9 (c0 c1 c2 c3 c4:Int) (xs:List (Int×Unit)) (h:xs.length≤1048576) :
  ∃e f,aG eg (c0,c1,c2,c3,c4,xs,(0:Int),())=some e∧aG kj (c0,c1,c2,c3,c4,xs,xs,((List.length xs:Nat):Int),(0:Int),())=some f∧Sb (c0,c1,c2,c3,c4,xs,()) e f:=by
 refine nt xs.length (fun k x y=>x=(c0,c1,c2,c3,c4,xs,((k:Nat):Int),())∧y=(c0,c1,c2,c3,c4,xs,xs,((List.length xs:Nat):Int),((k:Nat):Int),())) (Sb (c0,c1,c2,c3,c4,xs,())) ?_ ⟨rfl,rfl⟩
 rintro k x y hk ⟨rfl,rfl⟩
 by_cases bQ:k<xs.length
 ·simp only [eg,ke,kj,p9,ax bQ,ak,cond_true,az,List.getElem?_eq_getElem bQ,Option.bind_some,n5,sn,aE (show k<4611686018427387904 by omega)]
  cases (decide (1≤xs[k].1)&&decide (xs[k].1≤c2))
  ·exact .inl ⟨.inr (false,()),.inr (false,()),rfl,rfl,rfl,rfl⟩
  ·by_cases h0:0<k
   ·have hp:k-1<xs.length:=by omega
    rw [q8 h0 (by omega)];simp only [af (show (0:Int)<((k:Nat):Int) by omega),Bool.not_true,cond_false,cond_true,ak,az,List.getElem?_eq_getElem hp,Option.bind_some]
    cases decide (xs[k].1≤xs[k-1].1)
    ·exact .inr ⟨bQ,_,_,rfl,rfl,rfl,rfl⟩
    ·exact .inl ⟨.inr (false,()),.inr (false,()),rfl,rfl,rfl,rfl⟩
   ·have:k=0:=by omega
    subst this;simp only [ai (show ¬(0:Int)<((0:Nat):Int) by omega),Bool.not_true,cond_false];exact .inr ⟨bQ,_,_,rfl,rfl,rfl,rfl⟩
 ·have:k=xs.length:=by omega
  subst this;exact .inl ⟨.inl (),.inl (c0,c1,c2,c3,c4,xs,()),by simp only [eg,ke,aC,cond_false],by simp only [kj,p9,aC,cond_false],rfl⟩
theorem vK (c0 c1 c2 c3 c4:Int) (xs:List (Int×Unit)) (h:xs.length≤1048576):∃b,dI c0 c1 c2 c3 c4 xs=some (b,())∧gC c0 c1 c2 c3 c4 xs=some (b,())∧(b=true→0≤c2∧c2≤60∧0≤c3∧c3≤c2∧xs.length≤20∧(∀y∈[c0,c1],1≤y)):=by
 obtain ⟨e,f,h1,h2,h3⟩:=L9 c0 c1 c2 c3 c4 xs h;unfold dI gC;simp only [n5,sn,Option.bind_some,h1,h2]
 cases q0:(decide (1≤c0)&&decide (c0≤9))
 ·exact ⟨false,rfl,rfl,fun h=>by cases h⟩
 cases q1:(decide (1≤c1)&&decide (c1≤1000000000))
 ·exact ⟨false,rfl,rfl,fun h=>by cases h⟩
 cases q2:(decide (0≤c2)&&decide (c2≤60))
 ·exact ⟨false,rfl,rfl,fun h=>by cases h⟩
 cases e with
 |inl e=>cases f with
  |inl f=>
   have h3:f=(c0,c1,c2,c3,c4,xs,()):=h3;subst h3;simp only [bO,Option.bind_some,sn,Bool.not_true,cond_false]
   cases q3:(decide (0≤c3)&&decide (c3≤c2))
   ·exact ⟨false,rfl,rfl,fun h=>by cases h⟩
   cases (decide (0≤c4)&&decide (c4≤5))
   ·exact ⟨false,rfl,rfl,fun h=>by cases h⟩
   by_cases hl:((List.length xs:Nat):Int)≤20
   ·rw [af hl,ai (show ¬(20:Int)<((List.length xs:Nat):Int) by omega)];refine ⟨true,rfl,rfl,fun _ => ?_⟩;rw [Bool.and_eq_true,decide_eq_true_eq,decide_eq_true_eq] at q0 q1 q2 q3;refine ⟨q2.1,q2.2,q3.1,q3.2,by omega,fun y hy => ?_⟩;rcases List.mem_cons.1 hy with rfl | hy
    ·exact q0.1
    ·rcases List.mem_cons.1 hy with rfl | hy
     ·exact q1.1
     ·cases hy
   ·rw [ai hl,af (show (20:Int)<((List.length xs:Nat):Int) by omega)];exact ⟨false,rfl,rfl,fun h=>by cases h⟩
  |inr f=>exact h3.elim
 |inr e=>cases f with
  |inl f=>exact h3.elim
  |inr f=>
   obtain ⟨e1,e2⟩:=(show e.1=false∧f.1=false from h3);refine ⟨false,?_,by rw [←e2];rfl,fun h=>by cases h⟩
   cases (decide (0≤c3)&&decide (c3≤c2))
   ·rfl
   cases (decide (0≤c4)&&decide (c4≤5))
   ·rfl
   cases decide ((20:Int)<((List.length xs:Nat):Int))
   ·show some (e.1,())=some (false,());rw [e1]
   ·rfl
theorem oF (xs:List (Int×Unit)) (h:xs.length≤1048576):fx xs=some (xs,()):=by
 unfold fx;rw [aJ (show (0+xs.length)*8≤lim by unfold lim;omega)];rfl
theorem gF (c0 c1 c2 c3 c4:Int) (xs:List (Int×Unit)) (h:xs.length≤1048576):aO c0 c1 c2 c3 c4 xs=some (c0,c1,c2,c3,c4,xs,())∧cV c0 c1 c2 c3 c4 xs=some (c0,c1,c2,c3,c4,xs,()):=by
 constructor
 ·unfold aO;rw [aJ (show (0+xs.length)*8≤lim by unfold lim;omega)];rfl
 ·unfold cV;rw [oF xs h];rfl
def vL (c2:Int) (xs:List (Int×Unit)) (n:Nat):Prop:=∀k (h:k<xs.length),k<n→1≤xs[k].1∧xs[k].1≤c2∧∀h0:0<k,xs[k-1].1<xs[k].1
def ZL (c0 c1 c2 c3 c4:Int) (xs:List (Int×Unit)):Prop:=(1≤c0∧c0≤9)∧(1≤c1∧c1≤1000000000)∧(0≤c2∧c2≤60)∧(0≤c3∧c3≤c2)∧(0≤c4∧c4≤5)∧xs.length≤20∧vL c2 xs xs.length
theorem G4 (c0 c1 c2 c3 c4:Int) (xs:List (Int×Unit)) (h:xs.length≤1048576):∃b,dI c0 c1 c2 c3 c4 xs=some (b,())∧gC c0 c1 c2 c3 c4 xs=some (b,())∧(b=true↔ZL c0 c1 c2 c3 c4 xs):=by
 obtain ⟨b,h1,h2,_⟩:=vK c0 c1 c2 c3 c4 xs h;refine ⟨b,h1,h2,?_⟩;obtain ⟨e,he,hq⟩:=dw (round:=eg) (x:=(c0,c1,c2,c3,c4,xs,((0:Nat):Int),())) xs.length (fun k x=>x=(c0,c1,c2,c3,c4,xs,((k:Nat):Int),())∧vL c2 xs k)
  (fun e=>(e=.inl ()∧vL c2 xs xs.length)∨(e=.inr (false,())∧¬vL c2 xs xs.length)) (by
   rintro x ⟨rfl,g⟩
   exact ⟨.inl (),by simp only [eg,ke,aC,cond_false],.inl ⟨rfl,g⟩⟩) (by
   rintro k x bQ ⟨rfl,g⟩
   simp only [eg,ke,ax bQ,ak,cond_true,az,List.getElem?_eq_getElem bQ,Option.bind_some,n5,aE (show k<4611686018427387904 by omega)];have more:1≤xs[k].1→xs[k].1≤c2→(∀h0:0<k,xs[k-1].1<xs[k].1)→vL c2 xs (k+1):=by
    intro w1 w2 w3 j hj x8
    by_cases e:j<k
    ·exact g j hj e
    ·have:j=k:=by omega
     subst this;exact ⟨w1,w2,w3⟩
   cases Dh:(decide (1≤xs[k].1)&&decide (xs[k].1≤c2))
   ·refine .inl ⟨.inr (false,()),rfl,.inr ⟨rfl,fun hn => ?_⟩⟩;obtain ⟨w1,w2,_⟩:=hn k bQ bQ;rw [af w1,af w2] at Dh
    cases Dh
   ·rw [Bool.and_eq_true,decide_eq_true_eq,decide_eq_true_eq] at Dh
    by_cases h0:0<k
    ·have hp:k-1<xs.length:=by omega
     rw [q8 h0 (by omega)];simp only [af (show (0:Int)<((k:Nat):Int) by omega),Bool.not_true,cond_false,cond_true,ak,az,List.getElem?_eq_getElem hp,Option.bind_some]
     by_cases hd:xs[k].1≤xs[k-1].1
     ·rw [af hd];refine .inl ⟨.inr (false,()),rfl,.inr ⟨rfl,fun hn => ?_⟩⟩;have:=(hn k bQ bQ).2.2 h0;omega
     ·rw [ai hd];exact .inr ⟨_,rfl,rfl,more Dh.1 Dh.2 (fun _=>by omega)⟩
    ·have:k=0:=by omega
     subst this;simp only [ai (show ¬(0:Int)<((0:Nat):Int) by omega),Bool.not_true,cond_false];exact .inr ⟨_,rfl,rfl,more Dh.1 Dh.2 (fun h0=>absurd h0 (Nat.lt_irrefl 0))⟩) ⟨rfl,fun j _ h=>by omega⟩
 have he:aG eg (c0,c1,c2,c3,c4,xs,(0:Int),())=some e:=he;unfold dI at h1;simp only [n5,Option.bind_some,he] at h1;have no:∀ {p:Prop},(some (false,()):Option (Bool×Unit))=some (b,())→¬p→(b=true↔p):=by
  intro p e1 hp;injection e1 with e1;injection e1 with e1;subst e1;exact ⟨(fun h=>by cases h),fun h=>absurd h hp⟩
 have yes:∀ {p:Prop},(some (true,()):Option (Bool×Unit))=some (b,())→p→(b=true↔p):=by
  intro p e1 hp;injection e1 with e1;injection e1 with e1;subst e1;exact ⟨fun _=>hp,fun _=>rfl⟩
 by_cases q0:1≤c0∧c0≤9
 case neg=>
  rw [show (decide (1≤c0)&&decide (c0≤9))=false by rw [Bool.and_eq_false_iff,decide_eq_false_iff_not,decide_eq_false_iff_not];omega] at h1;exact no h1 (fun h=>q0 h.1)
 rw [af q0.1,af q0.2] at h1
 by_cases q1:1≤c1∧c1≤1000000000
 case neg=>
  rw [show (decide (1≤c1)&&decide (c1≤1000000000))=false by rw [Bool.and_eq_false_iff,decide_eq_false_iff_not,decide_eq_false_iff_not];omega] at h1;exact no h1 (fun h=>q1 h.2.1)
 rw [af q1.1,af q1.2] at h1
 by_cases q2:0≤c2∧c2≤60
 case neg=>
  rw [show (decide (0≤c2)&&decide (c2≤60))=false by rw [Bool.and_eq_false_iff,decide_eq_false_iff_not,decide_eq_false_iff_not];omega] at h1;exact no h1 (fun h=>q2 h.2.2.1)
 rw [af q2.1,af q2.2] at h1
 by_cases q3:0≤c3∧c3≤c2
 case neg=>
  rw [show (decide (0≤c3)&&decide (c3≤c2))=false by rw [Bool.and_eq_false_iff,decide_eq_false_iff_not,decide_eq_false_iff_not];omega] at h1;exact no h1 (fun h=>q3 h.2.2.2.1)
 rw [af q3.1,af q3.2] at h1
 by_cases q4:0≤c4∧c4≤5
 case neg=>
  rw [show (decide (0≤c4)&&decide (c4≤5))=false by rw [Bool.and_eq_false_iff,decide_eq_false_iff_not,decide_eq_false_iff_not];omega] at h1;exact no h1 (fun h=>q4 h.2.2.2.2.1)
 rw [af q4.1,af q4.2] at h1
 by_cases q5:(20:Int)<((List.length xs:Nat):Int)
 ·rw [af q5] at h1;exact no h1 (fun h=>by have:=h.q.1;omega)
 rw [ai q5] at h1;rcases hq with ⟨rfl,q⟩ | ⟨rfl,q⟩
 ·exact yes h1 ⟨q0,q1,q2,q3,q4,by omega,q⟩
 ·exact no h1 (fun h=>q h.q.2)
end Go.TM
set_option linter.unusedSimpArgs false
set_option linter.unusedVariables false
namespace Go.TM
open Go
theorem xw (a:Int):jY a=some (decide (1≤a)&&decide (a≤2),()):=by
 unfold jY
 by_cases h1:a=1
 ·subst h1;rfl
 by_cases h2:a=2
 ·subst h2;rfl
 have e:(decide (1≤a)&&decide (a≤2))=false:=by
  rw [Bool.and_eq_false_iff,decide_eq_false_iff_not,decide_eq_false_iff_not];omega
 rw [e,ai h1,ai h2];rfl
theorem Po (a b c:Int) (s:ByteArray):∃x,iO a b c s=some (x,())∧jO a b c s=some (x,()):=by
 unfold iO jO;simp only [n5,sn,q7,xw,Option.bind_some]
 cases (decide (1≤a)&&decide (a≤60))
 ·exact ⟨_,rfl,rfl⟩
 cases (decide (1≤b)&&decide (b≤5))
 ·exact ⟨_,rfl,rfl⟩
 cases (decide (1≤c)&&decide (c≤2))
 ·exact ⟨_,rfl,rfl⟩
 ·exact ⟨_,rfl,rfl⟩
theorem Ma (xs:List (Int×Int×Int×ByteArray×Unit)) (h:xs.length≤1048576) :
  ∃e f,aG ef (xs,(0:Int),())=some e∧aG ki (xs,xs,((List.length xs:Nat):Int),(0:Int),())=some f∧DC e f:=by
 refine nt xs.length (fun k x y=>x=(xs,((k:Nat):Int),())∧y=(xs,xs,((List.length xs:Nat):Int),((k:Nat):Int),())) DC ?_ ⟨rfl,rfl⟩
 rintro k x y hk ⟨rfl,rfl⟩
 by_cases bQ:k<xs.length
 ·obtain ⟨b,r1,r2⟩:=Po xs[k].1 xs[k].2.1 xs[k].2.2.1 xs[k].2.2.2.1;simp only [ef,kc,ki,p8,ax bQ,ak,cond_true,az,List.getElem?_eq_getElem bQ,Option.bind_some,r1,r2,aE (show k<4611686018427387904 by omega)]
  cases b
  ·exact .inl ⟨.inr (false,()),.inr (false,()),rfl,rfl,rfl⟩
  ·by_cases h0:0<k
   ·have hp:k-1<xs.length:=by omega
    rw [q8 h0 (by omega)];simp only [af (show (0:Int)<((k:Nat):Int) by omega),Bool.not_true,cond_false,cond_true,ak,az,List.getElem?_eq_getElem hp,Option.bind_some]
    cases decide (xs[k].1≤xs[k-1].1)
    ·exact .inr ⟨bQ,_,_,rfl,rfl,rfl,rfl⟩
    ·exact .inl ⟨.inr (false,()),.inr (false,()),rfl,rfl,rfl⟩
   ·have:k=0:=by omega
    subst this;simp only [ai (show ¬(0:Int)<((0:Nat):Int) by omega),Bool.not_true,cond_false];exact .inr ⟨bQ,_,_,rfl,rfl,rfl,rfl⟩
 ·have:k=xs.length:=by omega
  subst this;exact .inl ⟨.inl (),.inl (),by simp only [ef,kc,aC,cond_false],by simp only [ki,p8,aC,cond_false],trivial⟩
theorem E2 (xs:List (Int×Int×Int×ByteArray×Unit)) (h:xs.length≤1048576):∃b,gz xs=some (b,())∧j1 xs=some (b,()):=by
 obtain ⟨e,f,h1,h2,h3⟩:=Ma xs h;unfold gz j1;rw [h1,h2]
 cases e with
 |inl e=>cases f with
  |inl f=>exact ⟨true,rfl,rfl⟩
  |inr f=>exact h3.elim
 |inr e=>cases f with
  |inl f=>exact h3.elim
  |inr f=>exact ⟨e.1,rfl,by rw [show e.1=f.1 from h3];rfl⟩
abbrev dn:Type:=Int×Int×Int×ByteArray×Unit
abbrev aS:Type:=List dn
def dS (xs:aS) (s:Int):Option dn:=xs.find? fun r=>decide (r.1=s)
def oY:Option dn→Int×Int×Int×ByteArray×Bool×Unit
 |none=>(0,0,0,ByteArray.empty,false,())
 |some r=>(r.1,r.2.1,r.2.2.1,r.2.2.2.1,true,())
def Nj:Option dn→Sum (Int×Int×Int×ByteArray×Unit) (Int×Int×Int×ByteArray×Bool×Unit)
 |none=>.inl (0,0,0,ByteArray.empty,())
 |some r=>.inr (oY (some r))
theorem G5 (xs:aS) (s:Int) {k:Nat} (hk:k<xs.length):dS (xs.drop k) s=if xs[k].1=s then some xs[k] else dS (xs.drop (k+1)) s:=by
 unfold dS;rw [List.drop_eq_getElem_cons hk,List.find?_cons]
 by_cases h:xs[k].1=s
 ·rw [af h,if_pos h]
 ·rw [ai h,if_neg h]
theorem s4 (xs:aS) (s:Int) (h:xs.length≤1048576):lk xs s=some (oY (dS xs s)):=by
 have hl:=tQ (round:=jw) (n:=xs.length) (fun k=>(xs,s,(0:Int),(0:Int),(0:Int),ByteArray.empty,((k:Nat):Int),())) (fun k=>some (Nj (dS (xs.drop k) s)))
  ⟨.inl (0,0,0,ByteArray.empty,()),by simp only [jw,rL,aC,cond_false],by rw [List.drop_length];rfl⟩ (fun k hk=>by
   rw [G5 xs s hk];simp only [jw,rL,ax hk,ak,cond_true,az,List.getElem?_eq_getElem hk,Option.bind_some,aE (show k<4611686018427387904 by omega)]
   by_cases h:xs[k].1=s
   ·rw [af h,if_pos h];exact .inl ⟨_,rfl,rfl⟩
   ·rw [ai h,if_neg h];exact .inr ⟨rfl,rfl⟩) 0 (Nat.zero_le _)
 unfold lk;have hl:aG jw (xs,s,(0:Int),(0:Int),(0:Int),ByteArray.empty,(0:Int),())=_:=hl;rw [hl,List.drop_zero]
 cases dS xs s<;>rfl
theorem s5 (xs:aS) (s:Int) (h:xs.length≤1048576):lr xs s=some (oY (dS xs s)):=by
 have hl:=tQ (round:=jB) (n:=xs.length) (fun k=>(s,(0:Int),(0:Int),(0:Int),ByteArray.empty,xs,((List.length xs:Nat):Int),((k:Nat):Int),())) (fun k=>some (Nj (dS (xs.drop k) s)))
  ⟨.inl (0,0,0,ByteArray.empty,()),by simp only [jB,rX,aC,cond_false],by rw [List.drop_length];rfl⟩ (fun k hk=>by
   rw [G5 xs s hk];simp only [jB,rX,ax hk,ak,cond_true,az,List.getElem?_eq_getElem hk,Option.bind_some,aE (show k<4611686018427387904 by omega)]
   by_cases h:xs[k].1=s
   ·rw [af h,if_pos h];exact .inl ⟨_,rfl,rfl⟩
   ·rw [ai h,if_neg h];exact .inr ⟨rfl,rfl⟩) 0 (Nat.zero_le _)
 unfold lr;have hl:aG jB (s,(0:Int),(0:Int),(0:Int),ByteArray.empty,xs,((List.length xs:Nat):Int),(0:Int),())=_:=hl;rw [hl,List.drop_zero]
 cases dS xs s<;>rfl
theorem C1:(n:Nat)→(ys:List Int)→(∀i,i<n→((i+1:Nat):Int)∈ys)→n≤ys.length
 |0,_,_=>Nat.zero_le _
 |n+1,ys,h=>by
  have hm:=h n (by omega);have:=C1 n (ys.erase ((n+1:Nat):Int)) (fun i hi=>(List.mem_erase_of_ne (by omega)).2 (h i (by omega)));rw [List.length_erase_of_mem hm] at this;have:0<ys.length:=List.length_pos_of_mem hm;omega
theorem E3 {xs:aS} {s:Int} {r:dn} (h:dS xs s=some r):r∈xs∧r.1=s:=by
 unfold dS at h;exact ⟨List.mem_of_find?_eq_some h,by have:=List.find?_some h;simpa using this⟩
def Nk (xs:aS) (n:Nat):Prop:=n≤xs.length∧(∀i,i<n→(dS xs ((i+1:Nat):Int)).isSome=true)∧dS xs ((n+1:Nat):Int)=none
theorem Uv {xs:aS} (h:∀i,i<xs.length→(dS xs ((i+1:Nat):Int)).isSome=true):dS xs ((xs.length+1:Nat):Int)=none:=by
 cases hq:dS xs ((xs.length+1:Nat):Int) with
 |none=>rfl
 |some r=>
  have key:=C1 (xs.length+1) (xs.map (·.1)) (fun i hi=>by
   have:∃r,dS xs ((i+1:Nat):Int)=some r:=by
    by_cases UO:i<xs.length
    ·exact Option.isSome_iff_exists.1 (h i UO)
    ·have:i=xs.length:=by omega
     subst this;exact ⟨r,hq⟩
   obtain ⟨r',hr⟩:=this;obtain ⟨m1,m2⟩:=E3 hr;exact List.mem_map.2 ⟨r',m1,m2⟩)
  rw [List.length_map] at key;omega
theorem E4 (xs:aS) (h:xs.length≤1048576):∃n:Nat,hY xs=some (((n:Nat):Int),())∧j2 xs=some (((n:Nat):Int),())∧Nk xs n:=by
 obtain ⟨e,f,h1,h2,n,h3⟩:∃e f,aG oP (xs,(0:Int),(0:Int),())=some e∧aG oT (xs,(0:Int),())=some f∧∃n:Nat,(e=.inl (((n:Nat):Int),())∨e=.inr (((n:Nat):Int),()))∧f=.inr (((n:Nat):Int),())∧Nk xs n:=by
  refine nt xs.length (fun k x y=>x=(xs,((k:Nat):Int),((k:Nat):Int),())∧y=(xs,((k:Nat):Int),())∧∀i,i<k→(dS xs ((i+1:Nat):Int)).isSome=true) _ ?_ ⟨rfl,rfl,fun i hi=>by omega⟩
  rintro k x y hk ⟨rfl,rfl,pF⟩
  simp only [oP,yy,oT,yA,aE (show k<4611686018427387904 by omega),s4 xs _ h,s5 xs _ h,Option.bind_some]
  by_cases bQ:k<xs.length
  ·rw [ax bQ]
   cases hq:dS xs ((k+1:Nat):Int) with
   |none=>exact .inl ⟨.inr (((k:Nat):Int),()),.inr (((k:Nat):Int),()),rfl,rfl,k,.inr rfl,rfl,hk,pF,hq⟩
   |some r=>
    refine .inr ⟨bQ,_,_,rfl,rfl,rfl,rfl,fun i hi => ?_⟩
    by_cases UO:i<k
    ·exact pF i UO
    ·have:i=k:=by omega
     subst this;rw [hq];rfl
  ·have:k=xs.length:=by omega
   subst this;have hq:=Uv pF;rw [aC,hq];exact .inl ⟨.inl (((xs.length:Nat):Int),()),.inr (((xs.length:Nat):Int),()),rfl,rfl,xs.length,.inl rfl,rfl,hk,pF,hq⟩
 obtain ⟨h3,rfl,h4⟩:=h3;unfold hY j2;rw [h1,h2];refine ⟨n,?_,rfl,h4⟩;rcases h3 with rfl | rfl<;>rfl
end Go.TM
set_option linter.unusedSimpArgs false
set_option linter.unusedVariables false
namespace Go.TM
open Go
end Go.TM
set_option linter.unusedSimpArgs false
set_option linter.unusedVariables false
namespace Go.TM
open Go
theorem Bg (xs:List (Int×Unit)) (d:Int) (h:xs.length≤1048576):eo xs d=some (decide ((d,())∈xs),()):=by
 have hl:=tQ (round:=cZ) (n:=xs.length) (fun k=>(xs,d,((k:Nat):Int),())) (fun k=>some (if (d,())∈xs.drop k then .inr (true,()) else .inl ()))
  ⟨.inl (),by simp only [cZ,jf,aC,cond_false],by rw [List.drop_length];rfl⟩ (fun k hk=>by
   rw [List.drop_eq_getElem_cons hk];simp only [cZ,jf,ax hk,ak,cond_true,az,List.getElem?_eq_getElem hk,Option.bind_some,aE (show k<4611686018427387904 by omega)]
   by_cases e:xs[k].1=d
   ·rw [af e];exact .inl ⟨_,rfl,by rw [if_pos (List.mem_cons.2 (.inl (by rw [←e])))]⟩
   ·rw [ai e];refine .inr ⟨rfl,?_⟩;have:((d,())∈xs[k]::xs.drop (k+1))↔((d,())∈xs.drop (k+1)):=by
     rw [List.mem_cons];exact ⟨fun h=>h.resolve_left (fun q=>e (by rw [←q])),.inr⟩
    by_cases q:(d,())∈xs.drop (k+1)
    ·rw [if_pos q,if_pos (this.2 q)]
    ·rw [if_neg q,if_neg (fun z=>q (this.1 z))]) 0 (Nat.zero_le _)
 unfold eo;have hl:aG cZ (xs,d,(0:Int),())=_:=hl;rw [hl,List.drop_zero]
 by_cases q:(d,())∈xs
 ·rw [if_pos q,af q];rfl
 ·rw [if_neg q,ai q];rfl
theorem H8 (xs:List (Int×Unit)) (d:Int) (h:xs.length≤1048576):cn xs d=some (decide ((d,())∈xs),()):=by
 obtain ⟨b,h1,h2⟩:=tp d xs h;rw [Bg xs d h] at h1;injection h1 with h1;injection h1 with h1 _;rw [h2,h1]
end Go.TM
set_option linter.unusedSimpArgs false
set_option linter.unusedVariables false
namespace Go.TM
open Go
def vY (l:List (Int×Unit)) (n:Nat):Prop:=∀j (h:j<l.length),j<n→(decide (1≤l[j].1)&&decide (l[j].1≤2))=true
def jo (l:List (ByteArray×Unit)) (n:Nat):Prop:=∀j (h:j<l.length),j<n→ByteArray.size l[j].1≤60
def Sc (lv:List (Int×Unit)) (tx:List (ByteArray×Unit)):Sum (List (Int×Unit)×List (ByteArray×Unit)×Unit) (Bool×Unit)→Prop
 |.inl y=>y=(lv,tx,())∧vY lv (min lv.length tx.length)∧jo tx (min lv.length tx.length)
 |.inr b=>b.1=false∧¬(vY lv (min lv.length tx.length)∧jo tx (min lv.length tx.length))
theorem E5 (lv:List (Int×Unit)) (tx:List (ByteArray×Unit)) (h1:lv.length≤1048576) (h2:tx.length≤1048576):∃b,oO lv tx=some (b,())∧(b=true↔tx.length≤20∧lv.length=tx.length∧vY lv lv.length∧jo tx tx.length):=by
 obtain ⟨e,he,hq⟩:=dw (round:=gM) (x:=(lv,tx,((0:Nat):Int),())) (min lv.length tx.length) (fun k x=>x=(lv,tx,((k:Nat):Int),())∧vY lv k∧jo tx k) (Sc lv tx) (by
   rintro x ⟨rfl,g1,g2⟩
   refine ⟨.inl (lv,tx,()),?_,rfl,g1,g2⟩
   by_cases hb:min lv.length tx.length<tx.length
   ·have e:min lv.length tx.length=lv.length:=by omega
    simp only [gM,lG,ax hb,cond_true];rw [e,aC];rfl
   ·have e:min lv.length tx.length=tx.length:=by omega
    simp only [gM,lG];rw [e,aC];rfl) (by
   rintro k x hk ⟨rfl,g1,g2⟩
   have hl:k<lv.length:=by omega
   have ht:k<tx.length:=by omega
   simp only [gM,lG,ax hl,ax ht,ak,cond_true,az,List.getElem?_eq_getElem hl,List.getElem?_eq_getElem ht,Option.bind_some,n5,aE (show k<4611686018427387904 by omega)]
   cases hlv:(decide (1≤lv[k].1)&&decide (lv[k].1≤2))
   ·refine .inl ⟨.inr (false,()),rfl,rfl,fun hn => ?_⟩;have:=hn.1 k hl (by omega);rw [hlv] at this
    cases this
   ·by_cases hs:(60:Int)<((ByteArray.size tx[k].1:Nat):Int)
    ·rw [af hs];refine .inl ⟨.inr (false,()),rfl,rfl,fun hn => ?_⟩;have:=hn.2 k ht (by omega);omega
    ·rw [ai hs];refine .inr ⟨_,rfl,rfl,fun j hj x8 => ?_,fun j hj x8 => ?_⟩
     ·by_cases e:j<k
      ·exact g1 j hj e
      ·have:j=k:=by omega
       subst this;exact hlv
     ·by_cases e:j<k
      ·exact g2 j hj e
      ·have:j=k:=by omega
       subst this;omega) ⟨rfl,fun j _ h=>by omega,fun j _ h=>by omega⟩
 unfold oO;rw [show (0:Int)=((0:Nat):Int) from rfl,he]
 cases e with
 |inr e=>
  obtain ⟨q1,q2⟩:=hq;refine ⟨false,by rw [←q1];rfl,⟨(fun h=>by cases h),fun ⟨w1,w2,w3,w4⟩ => ?_⟩⟩;exact absurd ⟨fun j hj hm=>w3 j hj hj,fun j hj hm=>w4 j hj hj⟩ q2
 |inl e=>
  obtain ⟨q1,q2,q3⟩:=hq;subst q1;simp only [dZ]
  by_cases w1:((List.length tx:Nat):Int)≤20
  ·rw [af w1];refine ⟨_,rfl,?_⟩;rw [decide_eq_true_eq]
   constructor
   ·intro w2;have w2:lv.length=tx.length:=by omega
    exact ⟨by omega,w2,fun j hj _=>q2 j hj (by omega),fun j hj _=>q3 j hj (by omega)⟩
   ·rintro ⟨_,w2,_⟩
    rw [w2]
  ·rw [ai w1];exact ⟨false,rfl,⟨(fun h=>by cases h),fun ⟨w2,_⟩=>by omega⟩⟩
theorem Mb (tx:List (ByteArray×Unit)) (h2:tx.length≤1048576):∃b,oS tx=some (b,())∧(b=true↔jo tx tx.length):=by
 obtain ⟨e,he,hq⟩:=dw (round:=jA) (x:=(tx,((List.length tx:Nat):Int),((0:Nat):Int),())) tx.length (fun k x=>x=(tx,((List.length tx:Nat):Int),((k:Nat):Int),())∧jo tx k) (fun e=>(e=.inl ()∧jo tx tx.length)∨(e=.inr (false,())∧¬jo tx tx.length)) (by
   rintro x ⟨rfl,g2⟩
   exact ⟨.inl (),by simp only [jA,ow,aC,cond_false],.inl ⟨rfl,g2⟩⟩) (by
   rintro k x hk ⟨rfl,g2⟩
   simp only [jA,ow,ax hk,ak,cond_true,az,List.getElem?_eq_getElem hk,Option.bind_some,aE (show k<4611686018427387904 by omega)]
   by_cases hs:(60:Int)<((ByteArray.size tx[k].1:Nat):Int)
   ·rw [af hs];refine .inl ⟨.inr (false,()),rfl,.inr ⟨rfl,fun hn => ?_⟩⟩;have:=hn k hk hk;omega
   ·rw [ai hs];refine .inr ⟨_,rfl,rfl,fun j hj x8 => ?_⟩
    by_cases e:j<k
    ·exact g2 j hj e
    ·have:j=k:=by omega
     subst this;omega) ⟨rfl,fun j _ h=>by omega⟩
 unfold oS;rw [show (0:Int)=((0:Nat):Int) from rfl,he];rcases hq with ⟨rfl,q⟩ | ⟨rfl,q⟩
 ·exact ⟨true,rfl,⟨fun _=>q,fun _=>rfl⟩⟩
 ·exact ⟨false,rfl,⟨(fun h=>by cases h),fun h=>absurd h q⟩⟩
theorem E6 (c0 c1 c2 c3 c4:Int) (xs:List (Int×Unit)):∃b,eH c0 c1 c2 c3 c4 xs=some (b,())∧dm c0 c1 c2 c3 c4 xs=some (b,()):=by
 unfold eH nw dm
 cases decide (c0=0)
 ·exact ⟨_,rfl,rfl⟩
 cases decide (c1=0)
 ·exact ⟨_,rfl,rfl⟩
 cases decide (c2=0)
 ·exact ⟨_,rfl,rfl⟩
 cases decide (c3=0)
 ·exact ⟨_,rfl,rfl⟩
 cases decide (c4=0)
 ·exact ⟨_,rfl,rfl⟩
 cases xs with
 |nil=>
  have hl:=bD (round:=gq) (e:=.inl ()) 0 (fun k=>(([]:List (Int×Unit)),([]:List (Int×Unit)),((k:Nat):Int),())) (by
   simp only [gq,qp,List.length_nil,aC,cond_false]) (fun k hk=>by omega)
  have hl:aG gq (([]:List (Int×Unit)),([]:List (Int×Unit)),(0:Int),())=_:=hl;refine ⟨true,?_,rfl⟩;simp only [cond_true,lH,List.length_nil,decide_true,Bool.not_true,cond_false,hl,dZ,Option.bind_some]
 |cons x xs=>
  have e:decide (((List.length (x::xs):Nat):Int)=(0:Int))=false:=ai (by rw [List.length_cons];omega);have e2:decide (((List.length (x::xs):Nat):Int)=((List.length ([]:List (Int×Unit)):Nat):Int))=false:=e;refine ⟨false,?_,?_⟩
  ·simp only [cond_true,lH,e2,Bool.not_false,Option.bind_some]
  ·simp only [cond_true,e]
abbrev VK:Type:=Int×Int×(List (Int×Unit))×aS×(List (Int×Unit))×(List (ByteArray×Unit))×Int×Int×Int×Int×Int×Int×Int×Int×Int×(List (Int×Unit))×Unit
def ZM (m:VK) (lv:List (Int×Unit)):Sum VK (Bool×Unit)→Prop
 |.inl y=>y=m∧vY lv lv.length
 |.inr b=>b.1=false∧¬vY lv lv.length
theorem J9 (eN:Int) (eU:Int) (dV:List (Int×Unit)) (dH:List (Int×Int×Int×ByteArray×Unit)) (dk:List (Int×Unit)) (dQ:List (ByteArray×Unit)) (fD:Int) (fQ:Int) (fR:Int) (fS:Int) (cC:Int) (cD:Int) (cE:Int) (cF:Int) (cG:Int) (bZ:List (Int×Unit))
  (h0:(List.length dV+wl mW dV)+(List.length dH+wl dA dH)+(List.length dk+wl mW dk)+(List.length dQ+wl R2 dQ)+(List.length bZ+wl mW bZ)≤1048576):∃o0,gJ eN eU dV dH dk dQ fD fQ fR fS cC cD cE cF cG bZ=some (o0,())∧jP eN eU dV dH dk dQ fD fQ fR fS cC cD cE cF cG bZ=some (o0,()):=by
 obtain ⟨b1,r1,r2,_⟩:=Cm eU dV (by omega);obtain ⟨b2,c1,c2⟩:=tp eN dV (by omega);obtain ⟨b3,i1,i2⟩:=E2 dH (by omega);obtain ⟨b4,t1,t2⟩:=E5 dk dQ (by omega) (by omega);obtain ⟨b5,s1,s2⟩:=Mb dQ (by omega);obtain ⟨n,a1,a2,_⟩:=E4 dH (by omega);obtain ⟨b6,z1,z2⟩:=E6 cC cD cE cF cG bZ;obtain ⟨b7,k1,k2,_⟩:=vK cC cD cE cF cG bZ (by omega);obtain ⟨e,he,hq⟩:=dw (round:=jC) (x:=(eN,eU,dV,dH,dk,dQ,fD,fQ,fR,fS,cC,cD,cE,cF,cG,bZ,dk,((List.length dk:Nat):Int),((0:Nat):Int),())) dk.length
  (fun k x=>x=(eN,eU,dV,dH,dk,dQ,fD,fQ,fR,fS,cC,cD,cE,cF,cG,bZ,dk,((List.length dk:Nat):Int),((k:Nat):Int),())∧vY dk k)
  (ZM (eN,eU,dV,dH,dk,dQ,fD,fQ,fR,fS,cC,cD,cE,cF,cG,bZ,()) dk) (by
   rintro x ⟨rfl,g⟩
   exact ⟨.inl _,by simp only [jC,rY,aC,cond_false],rfl,g⟩) (by
   rintro k x hk ⟨rfl,g⟩
   simp only [jC,rY,ax hk,ak,cond_true,az,List.getElem?_eq_getElem hk,Option.bind_some,xw,aE (show k<4611686018427387904 by omega)]
   cases hlv:(decide (1≤dk[k].1)&&decide (dk[k].1≤2))
   ·refine .inl ⟨.inr (false,()),rfl,rfl,fun hn => ?_⟩;have:=hn k hk hk;rw [hlv] at this
    cases this
   ·refine .inr ⟨_,rfl,rfl,fun j hj x8 => ?_⟩
    by_cases e:j<k
    ·exact g j hj e
    ·have:j=k:=by omega
     subst this;exact hlv) ⟨rfl,fun j _ h=>by omega⟩
 have he:aG jC (eN,eU,dV,dH,dk,dQ,fD,fQ,fR,fS,cC,cD,cE,cF,cG,bZ,dk,((List.length dk:Nat):Int),(0:Int),())=some e:=he;unfold gJ jP;simp only [r1,r2,c1,c2,i1,i2,t1,s1,Option.bind_some,he]
 cases b1
 ·cases b2
  ·exact ⟨_,rfl,rfl⟩
  ·exact ⟨_,rfl,rfl⟩
 cases b2
 ·exact ⟨_,rfl,rfl⟩
 cases b3
 ·exact ⟨_,rfl,rfl⟩
 simp only [Bool.not_true,cond_false]
 by_cases w1:(20:Int)<((List.length dQ:Nat):Int)
 ·have:b4=false:=by
   cases b4
   ·rfl
   ·have:=(t2.1 rfl).1;omega
  subst this;rw [af w1];exact ⟨_,rfl,rfl⟩
 rw [ai w1]
 cases b5
 ·have:b4=false:=by
   cases b4
   ·rfl
   ·have:=s2.2 (t2.1 rfl).2.2.2;cases this
  subst this;exact ⟨_,rfl,rfl⟩
 by_cases w2:((List.length dk:Nat):Int)=((List.length dQ:Nat):Int)
 case neg=>
  have:b4=false:=by
   cases b4
   ·rfl
   ·have:=(t2.1 rfl).2.1;omega
  subst this;rw [ai w2];exact ⟨_,rfl,rfl⟩
 rw [af w2]
 cases e with
 |inr e=>
  obtain ⟨q1,q2⟩:=hq;have:b4=false:=by
   cases b4
   ·rfl
   ·exact absurd (t2.1 rfl).2.2.1 q2
  subst this;refine ⟨false,rfl,?_⟩;show some (e.1,())=_;rw [q1]
 |inl e=>
  obtain ⟨q1,q2⟩:=hq;subst q1;have:b4=true:=t2.2 ⟨by omega,by omega,q2,s2.1 rfl⟩;subst this;simp only [Bool.not_true,cond_false,dZ,a1,a2,z1,z2,k1,k2,n5,sn,Option.bind_some]
  cases (decide (0≤fD)&&decide (fD≤1000000000))
  ·exact ⟨_,rfl,rfl⟩
  cases (decide (0≤fQ)&&decide (fQ≤60))
  ·exact ⟨_,rfl,rfl⟩
  cases (decide (0≤fR)&&decide (fR≤((n:Nat):Int)))
  ·exact ⟨_,rfl,rfl⟩
  cases (decide (0≤fS)&&decide (fS≤((n:Nat):Int)))
  ·exact ⟨_,rfl,rfl⟩
  cases b6
  ·exact ⟨_,rfl,rfl⟩
  ·exact ⟨_,rfl,rfl⟩
end Go.TM
set_option linter.unusedSimpArgs false
set_option linter.unusedVariables false
namespace Go.TM
open Go
def mg (r:dn):Prop:=(1≤r.1∧r.1≤60)∧(1≤r.2.1∧r.2.1≤5)∧(1≤r.2.2.1∧r.2.2.1≤2)∧ByteArray.size r.2.2.2.1≤60
def iq (xs:aS) (n:Nat):Prop:=∀k (h:k<xs.length),k<n→mg xs[k]∧∀h0:0<k,xs[k-1].1<xs[k].1
theorem Ka (a b c:Int) (s:ByteArray):∃x,iO a b c s=some (x,())∧jO a b c s=some (x,())∧(x=true↔mg (a,b,c,s,())):=by
 have hi:∀ {p q r:Prop} [Decidable p] [Decidable q],(decide p&&decide q)=false→¬((p∧q)∧r):=by
  intro p q r _ _ h ⟨h1,_⟩;rw [decide_eq_true h1.1,decide_eq_true h1.2] at h
  cases h
 unfold iO jO mg;simp only [n5,sn,q7,xw,Option.bind_some]
 cases h1:(decide (1≤a)&&decide (a≤60))
 ·exact ⟨false,rfl,rfl,⟨fun h=>(by cases h),fun h=>absurd h (hi h1)⟩⟩
 rw [Bool.and_eq_true,decide_eq_true_eq,decide_eq_true_eq] at h1
 cases h2:(decide (1≤b)&&decide (b≤5))
 ·exact ⟨false,rfl,rfl,⟨fun h=>(by cases h),fun h=>absurd h.2 (hi h2)⟩⟩
 rw [Bool.and_eq_true,decide_eq_true_eq,decide_eq_true_eq] at h2
 cases h3:(decide (1≤c)&&decide (c≤2))
 ·exact ⟨false,rfl,rfl,⟨fun h=>(by cases h),fun h=>absurd h.2.2 (hi h3)⟩⟩
 rw [Bool.and_eq_true,decide_eq_true_eq,decide_eq_true_eq] at h3;refine ⟨_,rfl,rfl,?_⟩;rw [decide_eq_true_eq];exact ⟨fun h=>⟨h1,h2,h3,by omega⟩,fun h=>by have:=h.2.2.2;omega⟩
theorem Pp (xs:aS) (h:xs.length≤1048576):∃b,gz xs=some (b,())∧j1 xs=some (b,())∧(b=true↔iq xs xs.length):=by
 obtain ⟨b,h1,h2⟩:=E2 xs h;refine ⟨b,h1,h2,?_⟩;obtain ⟨e,he,hq⟩:=dw (round:=ef) (x:=(xs,((0:Nat):Int),())) xs.length (fun k x=>x=(xs,((k:Nat):Int),())∧iq xs k) (fun e=>(e=.inl ()∧iq xs xs.length)∨(e=.inr (false,())∧¬iq xs xs.length)) (by
   rintro x ⟨rfl,g⟩
   exact ⟨.inl (),by simp only [ef,kc,aC,cond_false],.inl ⟨rfl,g⟩⟩) (by
   rintro k x hk ⟨rfl,g⟩
   obtain ⟨b,r1,_,r3⟩:=Ka xs[k].1 xs[k].2.1 xs[k].2.2.1 xs[k].2.2.2.1;have r3:b=true↔mg xs[k]:=r3;simp only [ef,kc,ax hk,ak,cond_true,az,List.getElem?_eq_getElem hk,Option.bind_some,r1,aE (show k<4611686018427387904 by omega)];have more:mg xs[k]→(∀h0:0<k,xs[k-1].1<xs[k].1)→iq xs (k+1):=fun q1 q2 j hj x8=>by
    by_cases e:j<k
    ·exact g j hj e
    ·have:j=k:=by omega
     subst this;exact ⟨q1,q2⟩
   cases b
   ·exact .inl ⟨.inr (false,()),rfl,.inr ⟨rfl,fun hn=>absurd (r3.2 (hn k hk hk).1) (by simp)⟩⟩
   ·have q1:=r3.1 rfl
    by_cases h0:0<k
    ·have hp:k-1<xs.length:=by omega
     rw [q8 h0 (by omega)];simp only [af (show (0:Int)<((k:Nat):Int) by omega),Bool.not_true,cond_false,cond_true,ak,az,List.getElem?_eq_getElem hp,Option.bind_some]
     by_cases hs:xs[k].1≤xs[k-1].1
     ·rw [af hs];refine .inl ⟨.inr (false,()),rfl,.inr ⟨rfl,fun hn => ?_⟩⟩;have:=(hn k hk hk).2 h0;omega
     ·rw [ai hs];exact .inr ⟨_,rfl,rfl,more q1 (fun _=>by omega)⟩
    ·have:k=0:=by omega
     subst this;simp only [ai (show ¬(0:Int)<((0:Nat):Int) by omega),Bool.not_true,cond_false];exact .inr ⟨_,rfl,rfl,more q1 (fun h=>absurd h (by omega))⟩) ⟨rfl,fun j _ h=>by omega⟩
 have he:aG ef (xs,(0:Int),())=some e:=he;unfold gz at h1;rw [he] at h1;rcases hq with ⟨rfl,g⟩ | ⟨rfl,g⟩
 ·injection h1 with h1;injection h1 with h1 _;exact ⟨fun _=>g,fun _=>h1.symm⟩
 ·injection h1 with h1;injection h1 with h1 _;subst h1;exact ⟨fun h=>(by cases h),fun h=>absurd h g⟩
theorem Bh {α:Type} (f:α→Nat) (c:Nat):(xs:List α)→(∀x∈xs,f x≤c)→wl f xs≤c*xs.length
 | [],_=>Nat.zero_le _
 |x::xs,h=>by
  rw [sO,List.length_cons,Nat.mul_succ];have:=Bh f c xs (fun y hy=>h y (List.mem_cons_of_mem _ hy));have:=h x List.mem_cons_self;omega
theorem G6 (xs:aS) (h:iq xs xs.length):∀k (hk:k<xs.length),((k+1:Nat):Int)≤xs[k].1
 |0,hk=>by have:=(h 0 hk hk).1.1.1;omega
 |k+1,hk=>by
  have h1:=G6 xs h k (by omega);have h2:=(h (k+1) hk hk).2 (by omega);have h2:xs[k].1<xs[k+1].1:=h2;omega
theorem cm (xs:aS) (h:iq xs xs.length):xs.length≤60∧wl dA xs≤3600:=by
 have h1:xs.length≤60:=by
  by_cases h0:0<xs.length
  ·have:=G6 xs h (xs.length-1) (by omega);have:=(h (xs.length-1) (by omega) (by omega)).1.1.2;omega
  ·omega
 refine ⟨h1,Nat.le_trans (Bh dA 60 xs fun x hx => ?_) (by omega)⟩;obtain ⟨k,hk,rfl⟩:=List.mem_iff_getElem.1 hx;exact (h k hk hk).1.2.2.2
theorem C2 (xs:List (ByteArray×Unit)) (h:jo xs xs.length):wl R2 xs≤60*xs.length:=by
 refine Bh R2 60 xs fun x hx => ?_
 obtain ⟨k,hk,rfl⟩:=List.mem_iff_getElem.1 hx;exact h k hk hk
structure VL (c0 c1:Int) (c2:List (Int×Unit)) (c3:aS) (c4:List (Int×Unit)) (c5:List (ByteArray×Unit)) (c6 c7 c8 c9:Int) (c15:List (Int×Unit)):Prop where
 ring:1≤c2.length∧c2.length≤5
 items:iq c3 c3.length
 texts:c5.length≤20∧c4.length=c5.length
 Uw:vY c4 c4.length
 short:jo c5 c5.length
 round:0≤c6∧c6≤1000000000
 seen:0≤c7∧c7≤60
 aru:∃n:Nat,hY c3=some (((n:Nat):Int),())∧j2 c3=some (((n:Nat):Int),())∧Nk c3 n∧(0≤c8∧c8≤((n:Nat):Int))∧0≤c9∧c9≤((n:Nat):Int)
 po:c15.length≤20
theorem zS {p q:Prop} [Decidable p] [Decidable q] (h:(decide p&&decide q)=true):p∧q:=by
 rw [Bool.and_eq_true,decide_eq_true_eq,decide_eq_true_eq] at h;exact h
theorem VL.small {c0 c1:Int} {c2:List (Int×Unit)} {c3:aS} {c4:List (Int×Unit)} {c5:List (ByteArray×Unit)} {c6 c7 c8 c9:Int} {c15:List (Int×Unit)} (h:VL c0 c1 c2 c3 c4 c5 c6 c7 c8 c9 c15) :
  (List.length c2+wl mW c2)+(List.length c3+wl dA c3)+(List.length c4+wl mW c4)+(List.length c5+wl R2 c5)+(List.length c15+wl mW c15)≤5000:=by
 have h1:=cm c3 h.items;have h2:=C2 c5 h.short;have h3:=h.texts;have h4:=h.ring;have h5:=h.po;rw [ns mW (fun _=>rfl),ns mW (fun _=>rfl),ns mW (fun _=>rfl)];omega
theorem C3 (xs:aS) (h:xs.length≤1048576):eO xs=some (xs,()):=by
 unfold eO;rw [aJ (show (0+xs.length)*40≤lim by unfold lim;omega)];rfl
theorem H9 (xs:List (ByteArray×Unit)) (h:xs.length≤1048576):jn xs=some (xs,()):=by
 unfold jn;rw [aJ (show (0+xs.length)*16≤lim by unfold lim;omega)];rfl
theorem mX (eN:Int) (eU:Int) (dV:List (Int×Unit)) (dH:aS) (dk:List (Int×Unit)) (dQ:List (ByteArray×Unit)) (fD:Int) (fQ:Int) (fR:Int) (fS:Int) (cC:Int) (cD:Int) (cE:Int) (cF:Int) (cG:Int) (bZ:List (Int×Unit))
  (h0:(List.length dV+wl mW dV)+(List.length dH+wl dA dH)+(List.length dk+wl mW dk)+(List.length dQ+wl R2 dQ)+(List.length bZ+wl mW bZ)≤1048576) :
  iP eN eU dV dH dk dQ fD fQ fR fS cC cD cE cF cG bZ=some (eN,eU,dV,dH,dk,dQ,fD,fQ,fR,fS,cC,cD,cE,cF,cG,bZ,())∧
  jh eN eU dV dH dk dQ fD fQ fR fS cC cD cE cF cG bZ=some (eN,eU,dV,dH,dk,dQ,fD,fQ,fR,fS,cC,cD,cE,cF,cG,bZ,()):=by
 obtain ⟨t1,t2⟩:=gF cC cD cE cF cG bZ (by omega)
 constructor
 ·unfold iP;rw [aJ (show (0+dV.length)*8≤lim by unfold lim;omega),aJ (show (0+dH.length)*40≤lim by unfold lim;omega),aJ (show (0+dk.length)*8≤lim by unfold lim;omega),aJ (show (0+dQ.length)*16≤lim by unfold lim;omega),t1];rfl
 ·unfold jh dC;rw [oF dV (by omega),C3 dH (by omega),oF dk (by omega),H9 dQ (by omega),t2];rfl
end Go.TM
set_option linter.unusedSimpArgs false
set_option linter.unusedVariables false
namespace Go.TM
open Go
abbrev dF:Type:=List (Int×Unit)
abbrev kY:Type:=Int×Int×Int×Int×Int×dF×Unit
abbrev eb:Type:=Int×Int×dF×aS×dF×(List (ByteArray×Unit))×Int×Int×Int×Int×Int×Int×Int×Int×Int×dF×Unit
def Mc (xs:dF) (n:Nat):Prop:=∀k (h:k<xs.length),k<n→(1≤xs[k].1∧xs[k].1≤5)∧∀h0:0<k,xs[k-1].1<xs[k].1
def qt (c:Int) (xs:dF):Prop:=(1≤c∧c≤9)∧(1≤xs.length∧xs.length≤5)∧Mc xs xs.length
theorem Sd (c:Int) (xs:dF) (h:xs.length≤1048576):∃b,db c xs=some (b,())∧eX c xs=some (b,())∧(b=true↔qt c xs):=by
 obtain ⟨b,h1,h2,_⟩:=Cm c xs h;refine ⟨b,h1,h2,?_⟩;obtain ⟨e,he,hq⟩:=dw (round:=eL) (x:=(c,xs,((0:Nat):Int),())) xs.length (fun k x=>x=(c,xs,((k:Nat):Int),())∧Mc xs k) (fun e=>(e=.inl ()∧Mc xs xs.length)∨(e=.inr (false,())∧¬Mc xs xs.length)) (by
   rintro x ⟨rfl,g⟩
   exact ⟨.inl (),by simp only [eL,lh,aC,cond_false],.inl ⟨rfl,g⟩⟩) (by
   rintro k x hk ⟨rfl,g⟩
   simp only [eL,lh,ax hk,ak,cond_true,az,List.getElem?_eq_getElem hk,Option.bind_some,n5,aE (show k<4611686018427387904 by omega)];have more:(1≤xs[k].1∧xs[k].1≤5)→(∀h0:0<k,xs[k-1].1<xs[k].1)→Mc xs (k+1):=fun q1 q2 j hj x8=>by
    by_cases e:j<k
    ·exact g j hj e
    ·have:j=k:=by omega
     subst this;exact ⟨q1,q2⟩
   cases hb:(decide (1≤xs[k].1)&&decide (xs[k].1≤5))
   ·exact .inl ⟨.inr (false,()),rfl,.inr ⟨rfl,fun hn=>by
     have:=(hn k hk hk).1;rw [af this.1,af this.2] at hb
     cases hb⟩⟩
   ·have q1:=zS hb
    by_cases h0:0<k
    ·have hp:k-1<xs.length:=by omega
     rw [q8 h0 (by omega)];simp only [af (show (0:Int)<((k:Nat):Int) by omega),Bool.not_true,cond_false,cond_true,ak,az,List.getElem?_eq_getElem hp,Option.bind_some]
     by_cases hs:xs[k].1≤xs[k-1].1
     ·rw [af hs];refine .inl ⟨.inr (false,()),rfl,.inr ⟨rfl,fun hn => ?_⟩⟩;have:=(hn k hk hk).2 h0;omega
     ·rw [ai hs];exact .inr ⟨_,rfl,rfl,more q1 (fun _=>by omega)⟩
    ·have:k=0:=by omega
     subst this;simp only [ai (show ¬(0:Int)<((0:Nat):Int) by omega),Bool.not_true,cond_false];exact .inr ⟨_,rfl,rfl,more q1 (fun h=>absurd h (by omega))⟩) ⟨rfl,fun j _ h=>by omega⟩
 have he:aG eL (c,xs,(0:Int),())=some e:=he;unfold db at h1;simp only [n5,Option.bind_some,he] at h1;unfold qt
 cases a1:(decide (1≤c)&&decide (c≤9))
 ·rw [a1] at h1;injection h1 with h1;injection h1 with h1 _;subst h1;refine ⟨fun h=>(by cases h),fun h => ?_⟩;rw [af h.1.1,af h.1.2] at a1
  cases a1
 cases a2:(decide (1≤((List.length xs:Nat):Int))&&decide (((List.length xs:Nat):Int)≤5))
 ·rw [a1,a2] at h1;injection h1 with h1;injection h1 with h1 _;subst h1;refine ⟨fun h=>(by cases h),fun h => ?_⟩;rw [af (show (1:Int)≤((List.length xs:Nat):Int) by omega),af (show ((List.length xs:Nat):Int)≤5 by omega)] at a2
  cases a2
 rw [a1,a2] at h1;have a1:=zS a1;have a2:=zS a2;rcases hq with ⟨rfl,g⟩ | ⟨rfl,g⟩
 ·injection h1 with h1;injection h1 with h1 _;exact ⟨fun _=>⟨a1,by omega,g⟩,fun _=>h1.symm⟩
 ·injection h1 with h1;injection h1 with h1 _;subst h1;exact ⟨fun h=>(by cases h),fun h=>absurd h.2.2 g⟩
noncomputable def lB (c:Int) (xs:dF):Bool:=match db c xs with | some x=>x.1 | none=>false
theorem ig (c:Int) (xs:dF) (h:xs.length≤1048576):db c xs=some (lB c xs,())∧eX c xs=some (lB c xs,())∧(lB c xs=true↔qt c xs):=by
 obtain ⟨b,h1,h2,h3⟩:=Sd c xs h;have:lB c xs=b:=by unfold lB;rw [h1]
 rw [this];exact ⟨h1,h2,h3⟩
noncomputable def so (xs:aS):Bool:=match gz xs with | some x=>x.1 | none=>false
theorem xx (xs:aS) (h:xs.length≤1048576):gz xs=some (so xs,())∧j1 xs=some (so xs,())∧(so xs=true↔iq xs xs.length):=by
 obtain ⟨b,h1,h2,h3⟩:=Pp xs h;have:so xs=b:=by unfold so;rw [h1]
 rw [this];exact ⟨h1,h2,h3⟩
noncomputable def yC (r:dn):Bool:=match iO r.1 r.2.1 r.2.2.1 r.2.2.2.1 with | some x=>x.1 | none=>false
theorem Bi (r:dn):iO r.1 r.2.1 r.2.2.1 r.2.2.2.1=some (yC r,())∧jO r.1 r.2.1 r.2.2.1 r.2.2.2.1=some (yC r,())∧(yC r=true↔mg r):=by
 obtain ⟨b,h1,h2,h3⟩:=Ka r.1 r.2.1 r.2.2.1 r.2.2.2.1;have:yC r=b:=by unfold yC;rw [h1]
 rw [this];exact ⟨h1,h2,h3⟩
theorem DD {p q:Prop} [Decidable p] [Decidable q]:(decide p&&decide q)=true↔p∧q:=by
 rw [Bool.and_eq_true,decide_eq_true_eq,decide_eq_true_eq]
theorem Pq (c0 c1 c2 c3 c4:Int) (xs:dF):∃b,eH c0 c1 c2 c3 c4 xs=some (b,())∧dm c0 c1 c2 c3 c4 xs=some (b,())∧(b=true↔c0=0∧c1=0∧c2=0∧c3=0∧c4=0∧xs=[]):=by
 obtain ⟨b,h1,h2⟩:=E6 c0 c1 c2 c3 c4 xs;refine ⟨b,h1,h2,?_⟩;unfold dm at h2;have hl:((List.length xs:Nat):Int)=0↔xs=[]:=by rw [←List.length_eq_zero_iff];omega
 by_cases e0:c0=0
 case neg=>simp [ai e0] at h2;subst h2;simp [e0]
 by_cases e1:c1=0
 case neg=>simp [af e0,ai e1] at h2;subst h2;simp [e1]
 by_cases e2:c2=0
 case neg=>simp [af e0,af e1,ai e2] at h2;subst h2;simp [e2]
 by_cases e3:c3=0
 case neg=>simp [af e0,af e1,af e2,ai e3] at h2;subst h2;simp [e3]
 by_cases e4:c4=0
 case neg=>simp [af e0,af e1,af e2,af e3,ai e4] at h2;subst h2;simp [e4]
 by_cases e5:((List.length xs:Nat):Int)=0
 ·rw [af e0,af e1,af e2,af e3,af e4,af e5] at h2;injection h2 with h2;injection h2 with h2 _;exact ⟨fun _=>⟨e0,e1,e2,e3,e4,hl.1 e5⟩,fun _=>h2.symm⟩
 ·rw [af e0,af e1,af e2,af e3,af e4,ai e5] at h2;injection h2 with h2;injection h2 with h2 _;subst h2;exact ⟨fun h=>(by cases h),fun h=>absurd (hl.2 h.2.2.2.2.2) e5⟩
def Blank (t:kY):Prop:=t.1=0∧t.2.1=0∧t.2.2.1=0∧t.2.2.2.1=0∧t.2.2.2.2.1=0∧t.q.1=[]
noncomputable def oG (t:kY):Bool:=match eH t.1 t.2.1 t.2.2.1 t.2.2.2.1 t.2.2.2.2.1 t.q.1 with | some x=>x.1 | none=>false
theorem sq (t:kY):eH t.1 t.2.1 t.2.2.1 t.2.2.2.1 t.2.2.2.2.1 t.q.1=some (oG t,())∧dm t.1 t.2.1 t.2.2.1 t.2.2.2.1 t.2.2.2.2.1 t.q.1=some (oG t,())∧(oG t=true↔Blank t):=by
 obtain ⟨b,h1,h2,h3⟩:=Pq t.1 t.2.1 t.2.2.1 t.2.2.2.1 t.2.2.2.2.1 t.q.1;have:oG t=b:=by unfold oG;rw [h1]
 rw [this];exact ⟨h1,h2,h3⟩
def Cn (t:kY):Prop:=ZL t.1 t.2.1 t.2.2.1 t.2.2.2.1 t.2.2.2.2.1 t.q.1
noncomputable def FU (t:kY):Bool:=match dI t.1 t.2.1 t.2.2.1 t.2.2.2.1 t.2.2.2.2.1 t.q.1 with | some x=>x.1 | none=>false
theorem Co (t:kY) (h:t.q.1.length≤1048576):dI t.1 t.2.1 t.2.2.1 t.2.2.2.1 t.2.2.2.2.1 t.q.1=some (FU t,())∧gC t.1 t.2.1 t.2.2.1 t.2.2.2.1 t.2.2.2.2.1 t.q.1=some (FU t,())∧(FU t=true↔Cn t):=by
 obtain ⟨b,h1,h2,h3⟩:=G4 t.1 t.2.1 t.2.2.1 t.2.2.2.1 t.2.2.2.2.1 t.q.1 h;have:FU t=b:=by unfold FU;rw [h1]
 rw [this];exact ⟨h1,h2,h3⟩
noncomputable def dB (xs:aS):Nat:=match hY xs with | some x=>x.1.toNat | none=>0
theorem zT (xs:aS) (h:xs.length≤1048576):hY xs=some (((dB xs:Nat):Int),())∧j2 xs=some (((dB xs:Nat):Int),())∧Nk xs (dB xs):=by
 obtain ⟨n,h1,h2,h3⟩:=E4 xs h;have:dB xs=n:=by unfold dB;rw [h1];rfl
 rw [this];exact ⟨h1,h2,h3⟩
structure pr (m:eb):Prop where
 ring:qt m.2.1 m.2.2.1
 mem:(m.1,())∈m.2.2.1
 items:iq m.2.2.2.1 m.2.2.2.1.length
 texts:m.q.1.length≤20∧m.2.2.2.2.1.length=m.q.1.length
 Uw:vY m.2.2.2.2.1 m.2.2.2.2.1.length
 short:jo m.q.1 m.q.1.length
 round:0≤m.q.2.1∧m.q.2.1≤1000000000
 seen:0≤m.q.2.2.1∧m.q.2.2.1≤60
 line:0≤m.q.2.2.2.1∧m.q.2.2.2.1≤((dB m.2.2.2.1:Nat):Int)
 heard:0≤m.q.2.2.2.2.1∧m.q.2.2.2.2.1≤((dB m.2.2.2.1:Nat):Int)
 last:Blank (m.q.q.1,m.q.q.2.1,m.q.q.2.2.1,m.q.q.2.2.2.1,m.q.q.2.2.2.2.1,m.q.q.q.1,())∨Cn (m.q.q.1,m.q.q.2.1,m.q.q.2.2.1,m.q.q.2.2.2.1,m.q.q.2.2.2.2.1,m.q.q.q.1,())
def Cp (m:eb):Nat:=(List.length m.2.2.1+wl mW m.2.2.1)+(List.length m.2.2.2.1+wl dA m.2.2.2.1)+(List.length m.2.2.2.2.1+wl mW m.2.2.2.2.1)+(List.length m.q.1+wl R2 m.q.1)+(List.length m.q.q.q.1+wl mW m.q.q.q.1)
noncomputable def xy (m:eb):Bool:=match gJ m.1 m.2.1 m.2.2.1 m.2.2.2.1 m.2.2.2.2.1 m.q.1 m.q.2.1 m.q.2.2.1 m.q.2.2.2.1 m.q.2.2.2.2.1 m.q.q.1 m.q.q.2.1 m.q.q.2.2.1 m.q.q.2.2.2.1 m.q.q.2.2.2.2.1 m.q.q.q.1 with | some x=>x.1 | none=>false
theorem zU (m:eb) (h0:Cp m≤1048576):gJ m.1 m.2.1 m.2.2.1 m.2.2.2.1 m.2.2.2.2.1 m.q.1 m.q.2.1 m.q.2.2.1 m.q.2.2.2.1 m.q.2.2.2.2.1 m.q.q.1 m.q.q.2.1 m.q.q.2.2.1 m.q.q.2.2.2.1 m.q.q.2.2.2.2.1 m.q.q.q.1=some (xy m,())∧jP m.1 m.2.1 m.2.2.1 m.2.2.2.1 m.2.2.2.2.1 m.q.1 m.q.2.1 m.q.2.2.1 m.q.2.2.2.1 m.q.2.2.2.2.1 m.q.q.1 m.q.q.2.1 m.q.q.2.2.1 m.q.q.2.2.2.1 m.q.q.2.2.2.2.1 m.q.q.q.1=some (xy m,())∧(xy m=true↔pr m):=by
 obtain ⟨b,k1,k2⟩:=J9 m.1 m.2.1 m.2.2.1 m.2.2.2.1 m.2.2.2.2.1 m.q.1 m.q.2.1 m.q.2.2.1 m.q.2.2.2.1 m.q.2.2.2.2.1 m.q.q.1 m.q.q.2.1 m.q.q.2.2.1 m.q.q.2.2.2.1 m.q.q.2.2.2.2.1 m.q.q.q.1 h0;have hb:xy m=b:=by unfold xy;rw [k1]
 rw [hb];refine ⟨k1,k2,?_⟩;unfold Cp at h0;obtain ⟨r1,_,r3⟩:=ig m.2.1 m.2.2.1 (by omega);have c1:=Bg m.2.2.1 m.1 (by omega);obtain ⟨i1,_,i3⟩:=xx m.2.2.2.1 (by omega);obtain ⟨b4,t1,t2⟩:=E5 m.2.2.2.2.1 m.q.1 (by omega) (by omega);obtain ⟨a1,a2,a3⟩:=zT m.2.2.2.1 (by omega);have z1:eH m.q.q.1 m.q.q.2.1 m.q.q.2.2.1 m.q.q.2.2.2.1 m.q.q.2.2.2.2.1 m.q.q.q.1=some (oG (m.q.q.1,m.q.q.2.1,m.q.q.2.2.1,m.q.q.2.2.2.1,m.q.q.2.2.2.2.1,m.q.q.q.1,()),()):=(sq (m.q.q.1,m.q.q.2.1,m.q.q.2.2.1,m.q.q.2.2.2.1,m.q.q.2.2.2.2.1,m.q.q.q.1,())).1;have z3:=(sq (m.q.q.1,m.q.q.2.1,m.q.q.2.2.1,m.q.q.2.2.2.1,m.q.q.2.2.2.2.1,m.q.q.q.1,())).2.2;have w1:dI m.q.q.1 m.q.q.2.1 m.q.q.2.2.1 m.q.q.2.2.2.1 m.q.q.2.2.2.2.1 m.q.q.q.1=some (FU (m.q.q.1,m.q.q.2.1,m.q.q.2.2.1,m.q.q.2.2.2.1,m.q.q.2.2.2.2.1,m.q.q.q.1,()),()):=(Co (m.q.q.1,m.q.q.2.1,m.q.q.2.2.1,m.q.q.2.2.2.1,m.q.q.2.2.2.2.1,m.q.q.q.1,()) (by show m.q.q.q.1.length≤_;omega)).1;have w3:=(Co (m.q.q.1,m.q.q.2.1,m.q.q.2.2.1,m.q.q.2.2.2.1,m.q.q.2.2.2.2.1,m.q.q.q.1,()) (by show m.q.q.q.1.length≤_;omega)).2.2;unfold gJ at k1;simp only [r1,c1,i1,t1,a1,z1,w1,n5,Option.bind_some] at k1
 cases e1:lB m.2.1 m.2.2.1
 ·rw [e1] at k1;injection k1 with k1;injection k1 with k1 _;subst k1;exact ⟨fun h=>(by cases h),fun h=>by rw [r3.2 h.ring] at e1;cases e1⟩
 by_cases e2:(m.1,())∈m.2.2.1
 case neg=>
  rw [e1,ai e2] at k1;injection k1 with k1;injection k1 with k1 _;subst k1;exact ⟨fun h=>(by cases h),fun h=>absurd h.mem e2⟩
 cases e3:so m.2.2.2.1
 ·rw [e1,af e2,e3] at k1;injection k1 with k1;injection k1 with k1 _;subst k1;exact ⟨fun h=>(by cases h),fun h=>by rw [i3.2 h.items] at e3;cases e3⟩
 cases b4
 ·rw [e1,af e2,e3] at k1;injection k1 with k1;injection k1 with k1 _;subst k1;exact ⟨fun h=>(by cases h),fun h=>by have:=t2.2 ⟨h.texts.1,h.texts.2,h.Uw,h.short⟩;cases this⟩
 rw [e1,af e2,e3] at k1;simp only [Bool.not_true,cond_false] at k1
 cases e5:(decide ((0:Int)≤m.q.2.1)&&decide (m.q.2.1≤1000000000))
 ·rw [e5] at k1;injection k1 with k1;injection k1 with k1 _;subst k1;exact ⟨fun h=>(by cases h),fun h=>by rw [DD.2 h.round] at e5;cases e5⟩
 cases e6:(decide ((0:Int)≤m.q.2.2.1)&&decide (m.q.2.2.1≤60))
 ·rw [e5,e6] at k1;injection k1 with k1;injection k1 with k1 _;subst k1;exact ⟨fun h=>(by cases h),fun h=>by rw [DD.2 h.seen] at e6;cases e6⟩
 cases e8:(decide ((0:Int)≤m.q.2.2.2.1)&&decide (m.q.2.2.2.1≤((dB m.2.2.2.1:Nat):Int)))
 ·rw [e5,e6,e8] at k1;injection k1 with k1;injection k1 with k1 _;subst k1;exact ⟨fun h=>(by cases h),fun h=>by rw [DD.2 h.line] at e8;cases e8⟩
 cases e9:(decide ((0:Int)≤m.q.2.2.2.2.1)&&decide (m.q.2.2.2.2.1≤((dB m.2.2.2.1:Nat):Int)))
 ·rw [e5,e6,e8,e9] at k1;injection k1 with k1;injection k1 with k1 _;subst k1;exact ⟨fun h=>(by cases h),fun h=>by rw [DD.2 h.heard] at e9;cases e9⟩
 rw [e5,e6,e8,e9] at k1;obtain ⟨t3,t4,t5,t6⟩:=t2.1 rfl;have mk:(Blank (m.q.q.1,m.q.q.2.1,m.q.q.2.2.1,m.q.q.2.2.2.1,m.q.q.2.2.2.2.1,m.q.q.q.1,())∨Cn (m.q.q.1,m.q.q.2.1,m.q.q.2.2.1,m.q.q.2.2.2.1,m.q.q.2.2.2.2.1,m.q.q.q.1,()))→pr m:=fun hl=>⟨r3.1 e1,e2,i3.1 e3,⟨t3,t4⟩,t5,t6,zS e5,zS e6,zS e8,zS e9,hl⟩
 cases e10:oG (m.q.q.1,m.q.q.2.1,m.q.q.2.2.1,m.q.q.2.2.2.1,m.q.q.2.2.2.2.1,m.q.q.q.1,())
 ·rw [e10] at k1
  cases e11:FU (m.q.q.1,m.q.q.2.1,m.q.q.2.2.1,m.q.q.2.2.2.1,m.q.q.2.2.2.2.1,m.q.q.q.1,())
  ·rw [e11] at k1;injection k1 with k1;injection k1 with k1 _;subst k1;refine ⟨fun h=>(by cases h),fun h => ?_⟩;rcases h.last with q | q
   ·rw [z3.2 q] at e10;cases e10
   ·rw [w3.2 q] at e11;cases e11
  ·rw [e11] at k1;injection k1 with k1;injection k1 with k1 _;subst k1;exact ⟨fun _=>mk (.inr (w3.1 e11)),fun _=>rfl⟩
 ·rw [e10] at k1;injection k1 with k1;injection k1 with k1 _;subst k1;exact ⟨fun _=>mk (.inl (z3.1 e10)),fun _=>rfl⟩
theorem pr.small {m:eb} (h:pr m):Cp m≤5000:=by
 have h1:=cm _ h.items;have h2:=C2 _ h.short;have h3:=h.texts;have h4:=h.ring.2.1;have h5:m.q.q.q.1.length≤20:=by
  rcases h.last with q | q
  ·rw [show m.q.q.q.1=[] from q.2.2.2.2.2];exact Nat.zero_le _
  ·exact q.q.1
 unfold Cp;rw [ns mW (fun _=>rfl),ns mW (fun _=>rfl),ns mW (fun _=>rfl)];omega
end Go.TM
set_option linter.unusedSimpArgs false
set_option linter.unusedVariables false
namespace Go.TM
open Go
def m8:aS→dn→aS
 | [],m=>[m]
 |r::xs,m=>if r.1<m.1 then r::m8 xs m else if r.1=m.1 then r::xs else m::r::xs
def Ps (xs:aS):Prop:=xs.Pairwise fun a b=>a.1<b.1
def lY (xs:aS) (m:dn):Nat:=(xs.takeWhile fun r=>decide (r.1<m.1)).length
theorem Ux (xs:aS) (m:dn):lY xs m≤xs.length:=(List.takeWhile_sublist _).length_le
theorem Cq (r:dn) (xs:aS) (m:dn):lY (r::xs) m=if r.1<m.1 then lY xs m+1 else 0:=by
 unfold lY;rw [List.takeWhile_cons]
 by_cases h:r.1<m.1
 ·simp [h]
 ·simp [h]
theorem Kb (m:dn):(xs:aS)→m8 xs m=if h:lY xs m<xs.length then (if xs[lY xs m].1=m.1 then xs else xs.take (lY xs m)++([m]++xs.drop (lY xs m))) else xs.take (lY xs m)++([m]++xs.drop (lY xs m))
 | []=>rfl
 |r::xs=>by
  have ih:=Kb m xs;unfold m8
  by_cases h:r.1<m.1
  ·rw [if_pos h,ih];have hp:lY (r::xs) m=lY xs m+1:=by rw [Cq,if_pos h]
   by_cases h2:lY xs m<xs.length
   ·have h3:lY (r::xs) m<(r::xs).length:=by rw [hp,List.length_cons];omega
    rw [dif_pos h2,dif_pos h3];have e:(r::xs)[lY (r::xs) m]=xs[lY xs m]:=by simp [hp]
    rw [e]
    by_cases h4:xs[lY xs m].1=m.1
    ·rw [if_pos h4,if_pos h4]
    ·rw [if_neg h4,if_neg h4,hp];rfl
   ·have h3:¬lY (r::xs) m<(r::xs).length:=by rw [hp,List.length_cons];omega
    rw [dif_neg h2,dif_neg h3,hp];rfl
  ·rw [if_neg h];have hp:lY (r::xs) m=0:=by rw [Cq,if_neg h]
   have h3:lY (r::xs) m<(r::xs).length:=by rw [hp,List.length_cons];omega
   rw [dif_pos h3];have e:(r::xs)[lY (r::xs) m]=r:=by simp [hp]
   rw [e,hp];rfl
theorem Se {xs:aS} (h:iq xs xs.length):Ps xs:=by
 have key:∀(d i:Nat) (hi:i+d+1<xs.length),xs[i].1<xs[i+d+1].1:=by
  intro d
  induction d with
  |zero=>intro i hi;exact (h (i+1) hi hi).2 (by omega)
  |succ d ih=>
   intro i hi;have h1:=ih i (by omega);have h2:=(h (i+(d+1)+1) hi hi).2 (by omega);have e:i+(d+1)+1-1=i+d+1:=by omega
   simp only [e] at h2;omega
 unfold Ps;rw [List.pairwise_iff_getElem];intro i j hi hj hij;have:=key (j-i-1) i (by omega);simpa [show i+(j-i-1)+1=j by omega] using this
theorem Sf {xs:aS} (h:Ps xs) (hi:∀r∈xs,mg r):iq xs xs.length:=by
 intro k hk _;refine ⟨hi _ (List.getElem_mem hk),fun h0 => ?_⟩;unfold Ps at h;rw [List.pairwise_iff_getElem] at h;exact h (k-1) k (by omega) hk (by omega)
theorem q9 {xs:aS} (h:iq xs xs.length):∀r∈xs,mg r:=by
 intro r hr;obtain ⟨k,hk,rfl⟩:=List.mem_iff_getElem.1 hr;exact (h k hk hk).1
theorem xz {r m:dn}:{xs:aS}→r∈m8 xs m→r=m∨r∈xs
 | [],h=>by
  unfold m8 at h;exact .inl (List.mem_singleton.1 h)
 |x::xs,h=>by
  unfold m8 at h
  split at h
  ·rcases List.mem_cons.1 h with rfl | h
   ·exact .inr List.mem_cons_self
   ·exact (xz h).imp id (List.mem_cons_of_mem _)
  ·split at h
   ·exact .inr h
   ·rcases List.mem_cons.1 h with rfl | h
    ·exact .inl rfl
    ·exact .inr h
theorem Kc {m:dn}:{xs:aS}→Ps xs→Ps (m8 xs m)
 | [],_=>by unfold m8 Ps;simp
 |x::xs,h=>by
  unfold Ps at h;rw [List.pairwise_cons] at h;unfold m8
  split
  ·rename_i bQ;unfold Ps;rw [List.pairwise_cons];refine ⟨fun y hy => ?_,Kc h.2⟩;rcases xz hy with rfl | hy
   ·exact bQ
   ·exact h.1 y hy
  ·split
   ·unfold Ps;rw [List.pairwise_cons];exact h
   ·unfold Ps;rw [List.pairwise_cons,List.pairwise_cons];refine ⟨fun y hy => ?_,h⟩;rcases List.mem_cons.1 hy with rfl | hy
    ·omega
    ·have:=h.1 y hy;omega
theorem E7 {xs:aS} {m:dn} (h:iq xs xs.length) (hm:mg m):iq (m8 xs m) (m8 xs m).length:=
 Sf (Kc (Se h)) fun r hr=>(xz hr).elim (fun e=>e▸hm) (q9 h r)
def mY (xs:aS) (m:dn):aS:=xs.filter fun r=>decide (r.1<m.1)
def sr (xs:aS) (m:dn):aS:=xs.filter fun r=>decide (m.1<r.1)
def Bj (xs:aS) (s:Int):Bool:=xs.any fun r=>decide (r.1=s)
theorem C4 (m:dn):(xs:aS)→Ps xs→m8 xs m=bif Bj xs m.1 then xs else mY xs m++[m]++sr xs m
 | [],_=>rfl
 |r::xs,h=>by
  unfold Ps at h;rw [List.pairwise_cons] at h;have ih:=C4 m xs h.2;unfold m8
  by_cases h1:r.1<m.1
  ·rw [if_pos h1,ih];have e1:Bj (r::xs) m.1=Bj xs m.1:=by unfold Bj;rw [List.any_cons,ai (show ¬r.1=m.1 by omega)];rfl
   have e2:mY (r::xs) m=r::mY xs m:=by unfold mY;rw [List.filter_cons,if_pos (af h1)]
   have e3:sr (r::xs) m=sr xs m:=by unfold sr;rw [List.filter_cons,if_neg (by rw [decide_eq_true_eq];omega)]
   rw [e1,e2,e3]
   cases Bj xs m.1<;>rfl
  ·rw [if_neg h1]
   by_cases h2:r.1=m.1
   ·have e1:Bj (r::xs) m.1=true:=by unfold Bj;rw [List.any_cons,af h2];rfl
    rw [if_pos h2,e1];rfl
   ·rw [if_neg h2];have pF:∀y∈r::xs,m.1<y.1:=by
     intro y hy;rcases List.mem_cons.1 hy with rfl | hy
     ·omega
     ·have:=h.1 y hy;omega
    have e1:Bj (r::xs) m.1=false:=by
     unfold Bj;rw [List.any_eq_false];intro y hy;have:=pF y hy;rw [decide_eq_true_eq];omega
    have e2:mY (r::xs) m=[]:=by
     unfold mY;rw [List.filter_eq_nil_iff];intro y hy;have:=pF y hy;rw [decide_eq_true_eq];omega
    have e3:sr (r::xs) m=r::xs:=by
     unfold sr;rw [List.filter_eq_self];intro y hy;exact af (pF y hy)
    rw [e1,e2,e3];rfl
theorem Bk (xs:aS) (m:dn) (h:xs.length≤1048576) (hi:so xs=true) (hm:yC m=true):iQ xs m.1 m.2.1 m.2.2.1 m.2.2.2.1=some (m8 xs m,()):=by
 obtain ⟨k1,_,k3⟩:=xx xs h;obtain ⟨q1,_,_⟩:=Bi m;have hs:=Se (k3.1 hi);have hlen:∀k,(mY (xs.take k) m).length≤k:=fun k=>Nat.le_trans (List.length_filter_le _ _) (by rw [List.length_take];omega)
 have JN:∀k,(sr (xs.take k) m).length≤k:=fun k=>Nat.le_trans (List.length_filter_le _ _) (by rw [List.length_take];omega)
 have l1:=tQ (round:=iw) (n:=xs.length) (fun k=>(xs,m.1,m.2.1,m.2.2.1,m.2.2.2.1,xs,mY (xs.take k) m,((k:Nat):Int),())) (fun k=>some (bif Bj (xs.drop k) m.1 then .inr (xs,()) else .inl (xs,m.1,m.2.1,m.2.2.1,m.2.2.2.1,mY xs m,())))
  ⟨.inl (xs,m.1,m.2.1,m.2.2.1,m.2.2.2.1,mY xs m,()),by simp only [iw,pO,aC,cond_false,List.take_length],by rw [List.drop_length];rfl⟩ (fun k hk=>by
   have e:Bj (xs.drop k) m.1=(decide (xs[k].1=m.1)||Bj (xs.drop (k+1)) m.1):=by unfold Bj;rw [List.drop_eq_getElem_cons hk,List.any_cons]
   have e2:mY (xs.take (k+1)) m=mY (xs.take k) m++(if decide (xs[k].1<m.1)=true then [xs[k]] else []):=by
    unfold mY;rw [List.take_succ_eq_append_getElem hk,List.filter_append,List.filter_cons]
    split<;>rfl
   have hb:Nat.ble (((mY (xs.take k) m).length+1)*40) lim=true:=aJ (by have:=hlen k;unfold lim;omega);simp only [iw,pO,ax hk,ak,cond_true,az,List.getElem?_eq_getElem hk,Option.bind_some,aE (show k<4611686018427387904 by omega),hb,e,e2]
   by_cases h1:xs[k].1=m.1
   ·rw [af h1];exact .inl ⟨_,rfl,rfl⟩
   ·rw [ai h1];refine .inr ⟨?_,rfl⟩
    by_cases h2:xs[k].1<m.1
    ·rw [af h2];rfl
    ·rw [ai h2,if_neg (by decide),List.append_nil];rfl) 0 (Nat.zero_le _)
 have l1:aG iw (xs,m.1,m.2.1,m.2.2.1,m.2.2.2.1,xs,[],(0:Int),())=_:=l1;rw [List.drop_zero] at l1;have l2:=bD (round:=gj) (e:=.inl (mY xs m++[m]++sr xs m,())) xs.length (fun k=>(xs,m.1,m.2.1,m.2.2.1,m.2.2.2.1,mY xs m++[m]++sr (xs.take k) m,((k:Nat):Int),())) (by
  simp only [gj,pP,aC,cond_false,List.take_length]) (fun k hk=>by
   have e2:sr (xs.take (k+1)) m=sr (xs.take k) m++(if decide (m.1<xs[k].1)=true then [xs[k]] else []):=by
    unfold sr;rw [List.take_succ_eq_append_getElem hk,List.filter_append,List.filter_cons]
    split<;>rfl
   have hb:Nat.ble (((mY xs m++[m]++sr (xs.take k) m).length+1)*40) lim=true:=aJ (by
    have h1:=hlen xs.length;rw [List.take_length] at h1;have h2:=JN k;simp only [List.length_append,List.length_cons,List.length_nil];unfold lim;omega)
   simp only [gj,pP,ax hk,ak,cond_true,az,List.getElem?_eq_getElem hk,Option.bind_some,aE (show k<4611686018427387904 by omega),hb,e2]
   by_cases h2:m.1<xs[k].1
   ·rw [af h2,if_pos rfl,←List.append_assoc];rfl
   ·rw [ai h2,if_neg (by decide),List.append_nil];rfl)
 have l2:aG gj (xs,m.1,m.2.1,m.2.2.1,m.2.2.2.1,mY xs m++[m]++sr (xs.take 0) m,(0:Int),())=_:=l2;rw [show sr (xs.take 0) m=[] from rfl,List.append_nil] at l2;have K5:Nat.ble ((0+xs.length)*40) lim=true:=aJ (by unfold lim;omega);have Jg:Nat.ble (((mY xs m).length+1)*40) lim=true:=aJ (by
  have h1:=hlen xs.length;rw [List.take_length] at h1;unfold lim;omega)
 rw [C4 m xs hs];unfold iQ;simp only [k1,q1,hi,hm,K5,cond_true,Bool.not_true,cond_false,Option.bind_some,List.nil_append,l1]
 cases Bj xs m.1
 ·have l3:aG gj (xs,m.1,m.2.1,m.2.2.1,m.2.2.2.1,mY xs m++[(m.1,m.2.1,m.2.2.1,m.2.2.2.1,())],(0:Int),())=_:=l2;simp only [cond_false,bO,Option.bind_some,Jg,cond_true,l3]
 ·rfl
theorem Bl (xs:aS) (m:dn) (h:xs.length≤1048576):nH xs m.1 m.2.1 m.2.2.1 m.2.2.2.1=some (m8 xs m,()):=by
 have l1:=tQ (round:=iC) (n:=xs.length) (fun k=>(xs,m.1,m.2.1,m.2.2.1,m.2.2.2.1,((k:Nat):Int),())) (fun k=>some (.inl (xs,m.1,m.2.1,m.2.2.1,m.2.2.2.1,((k+lY (xs.drop k) m:Nat):Int),())))
  ⟨.inl (xs,m.1,m.2.1,m.2.2.1,m.2.2.2.1,((xs.length:Nat):Int),()),by simp only [iC,qa,aC,cond_false],by rw [List.drop_length];rfl⟩ (fun k hk=>by
   have e:lY (xs.drop k) m=if xs[k].1<m.1 then lY (xs.drop (k+1)) m+1 else 0:=by rw [List.drop_eq_getElem_cons hk,Cq]
   simp only [iC,qa,ax hk,ak,cond_true,az,cS hk,List.getElem?_eq_getElem hk,Option.bind_some,aE (show k<4611686018427387904 by omega),e]
   by_cases h1:xs[k].1<m.1
   ·rw [af h1,if_pos h1];exact .inr ⟨rfl,by rw [show k+(lY (xs.drop (k+1)) m+1)=k+1+lY (xs.drop (k+1)) m by omega]⟩
   ·rw [ai h1,if_neg h1];exact .inl ⟨_,rfl,rfl⟩) 0 (Nat.zero_le _)
 have l1:aG iC (xs,m.1,m.2.1,m.2.2.1,m.2.2.2.1,(0:Int),())=_:=l1;rw [List.drop_zero,Nat.zero_add] at l1;have hp:=Ux xs m;have alh:J2 xs ((lY xs m:Nat):Int) [(m.1,m.2.1,m.2.2.1,m.2.2.2.1,())]=some (xs.take (lY xs m)++([m]++xs.drop (lY xs m)),()):=by
  unfold J2;rw [ak,af (show ((lY xs m:Nat):Int)≤((xs.length:Nat):Int) by omega),aJ (show (xs.length+1)*40≤lim by unfold lim;omega)];rfl
 rw [Kb];unfold nH;simp only [l1,bO,alh,Option.bind_some]
 by_cases h1:lY xs m<xs.length
 ·simp only [dif_pos h1,ax h1,ak,az,cS h1,cond_true,List.getElem?_eq_getElem h1,Option.bind_some]
  by_cases h2:xs[lY xs m].1=m.1
  ·rw [af h2,if_pos h2];rfl
  ·rw [ai h2,if_neg h2];rfl
 ·rw [dif_neg h1,ai (show ¬((lY xs m:Nat):Int)<((xs.length:Nat):Int) by omega)];rfl
noncomputable def Pt (xs:aS) (m:dn):aS:=bif so xs&&yC m then m8 xs m else xs
theorem Ia (xs:aS) (m:dn) (h:xs.length≤1048576):iQ xs m.1 m.2.1 m.2.2.1 m.2.2.2.1=some (Pt xs m,())∧qL xs m.1 m.2.1 m.2.2.1 m.2.2.2.1=some (Pt xs m,()):=by
 obtain ⟨k1,k2,_⟩:=xx xs h;obtain ⟨q1,q2,_⟩:=Bi m;have K5:Nat.ble ((0+xs.length)*40) lim=true:=aJ (by unfold lim;omega);unfold Pt
 constructor
 ·cases hi:so xs
  ·unfold iQ;simp only [k1,hi,K5,cond_true,Option.bind_some];rfl
  ·cases hm:yC m
   ·unfold iQ;simp only [k1,q1,hi,hm,K5,cond_true,Option.bind_some];rfl
   ·exact Bk xs m h hi hm
 ·unfold qL;simp only [k2,q2,C3 xs h,Option.bind_some,Bl xs m h]
  cases so xs<;>cases yC m<;>rfl
def ra (m:eb) (xs:aS):eb:=(m.1,m.2.1,m.2.2.1,xs,m.2.2.2.2)
noncomputable def qg (m:eb) (x:dn):eb:=bif xy m then ra m (Pt m.2.2.2.1 x) else m
theorem E8 (m:eb) (x:dn) (h:Cp m≤1048576):u6 m.1 m.2.1 m.2.2.1 m.2.2.2.1 m.2.2.2.2.1 m.q.1 m.q.2.1 m.q.2.2.1 m.q.2.2.2.1 m.q.2.2.2.2.1 m.q.q.1 m.q.q.2.1 m.q.q.2.2.1 m.q.q.2.2.2.1 m.q.q.2.2.2.2.1 m.q.q.q.1 x.1 x.2.1 x.2.2.1 x.2.2.2.1=some (qg m x)∧vv m.1 m.2.1 m.2.2.1 m.2.2.2.1 m.2.2.2.2.1 m.q.1 m.q.2.1 m.q.2.2.1 m.q.2.2.2.1 m.q.2.2.2.2.1 m.q.q.1 m.q.q.2.1 m.q.q.2.2.1 m.q.q.2.2.2.1 m.q.q.2.2.2.2.1 m.q.q.q.1 x.1 x.2.1 x.2.2.1 x.2.2.2.1=some (qg m x):=by
 obtain ⟨k1,k2,_⟩:=zU m h;obtain ⟨p1,p2⟩:=mX m.1 m.2.1 m.2.2.1 m.2.2.2.1 m.2.2.2.2.1 m.q.1 m.q.2.1 m.q.2.2.1 m.q.2.2.2.1 m.q.2.2.2.2.1 m.q.q.1 m.q.q.2.1 m.q.q.2.2.1 m.q.q.2.2.2.1 m.q.q.2.2.2.2.1 m.q.q.q.1 h;have hl:m.2.2.2.1.length≤1048576:=by unfold Cp at h;omega
 obtain ⟨q1,q2⟩:=Ia m.2.2.2.1 x hl;unfold qg
 constructor
 ·unfold u6;simp only [p1,k1,q1,Option.bind_some]
  cases xy m<;>rfl
 ·unfold vv;simp only [p2,k2,q2,Option.bind_some]
  cases xy m<;>rfl
end Go.TM
set_option linter.unusedSimpArgs false
set_option linter.unusedVariables false
namespace Go.TM
open Go
def xW (xs:aS) (s:Int):dn:=((oY (dS xs s)).1,(oY (dS xs s)).2.1,(oY (dS xs s)).2.2.1,(oY (dS xs s)).2.2.2.1,())
def ji (xs:aS) (h:Int) (k:Nat):aS:=(List.range k).map fun j=>xW xs (h+((j+1:Nat):Int))
theorem oH (xs:aS) (h:Int) (k:Nat):(ji xs h k).length=k:=by simp [ji]
theorem s6 (xs:aS) (h:Int) (k:Nat):ji xs h (k+1)=ji xs h k++[xW xs (h+((k+1:Nat):Int))]:=by
 unfold ji;rw [List.range_succ,List.map_append];rfl
def yD (xs:aS) (line s:Int):Prop:=(xW xs s).2.2.1=2∧line<(xW xs s).1
theorem Sg (m:eb) (h0:Cp m≤1048576):∃(k:Nat) (v:Int),tV m.1 m.2.1 m.2.2.1 m.2.2.2.1 m.2.2.2.2.1 m.q.1 m.q.2.1 m.q.2.2.1 m.q.2.2.2.1 m.q.2.2.2.2.1 m.q.q.1 m.q.q.2.1 m.q.q.2.2.1 m.q.q.2.2.2.1 m.q.q.2.2.2.2.1 m.q.q.q.1=some (m.1,m.2.1,m.2.2.1,m.2.2.2.1,m.2.2.2.2.1,m.q.1,m.q.2.1,m.q.2.2.1,m.q.2.2.2.1,v,m.q.q.1,m.q.q.2.1,m.q.q.2.2.1,m.q.q.2.2.2.1,m.q.q.2.2.2.2.1,m.q.q.q.1,ji m.2.2.2.1 m.q.2.2.2.2.1 k,())∧tZ m.1 m.2.1 m.2.2.1 m.2.2.2.1 m.2.2.2.2.1 m.q.1 m.q.2.1 m.q.2.2.1 m.q.2.2.2.1 m.q.2.2.2.2.1 m.q.q.1 m.q.q.2.1 m.q.q.2.2.1 m.q.q.2.2.2.1 m.q.q.2.2.2.2.1 m.q.q.q.1=some (m.1,m.2.1,m.2.2.1,m.2.2.2.1,m.2.2.2.2.1,m.q.1,m.q.2.1,m.q.2.2.1,m.q.2.2.2.1,v,m.q.q.1,m.q.q.2.1,m.q.q.2.2.1,m.q.q.2.2.2.1,m.q.q.2.2.2.2.1,m.q.q.q.1,ji m.2.2.2.1 m.q.2.2.2.2.1 k,())∧v=m.q.2.2.2.2.1+((k:Nat):Int)∧
  (xy m=false→k=0)∧(xy m=true→v≤((dB m.2.2.2.1:Nat):Int)∧(∀j,j<k→¬yD m.2.2.2.1 m.q.2.2.2.1 (m.q.2.2.2.2.1+((j+1:Nat):Int)))∧(v<((dB m.2.2.2.1:Nat):Int)→yD m.2.2.2.1 m.q.2.2.2.1 (m.q.2.2.2.2.1+((k+1:Nat):Int)))):=by
 obtain ⟨k1,k2,k3⟩:=zU m h0;obtain ⟨p1,p2⟩:=mX m.1 m.2.1 m.2.2.1 m.2.2.2.1 m.2.2.2.2.1 m.q.1 m.q.2.1 m.q.2.2.1 m.q.2.2.2.1 m.q.2.2.2.2.1 m.q.q.1 m.q.q.2.1 m.q.q.2.2.1 m.q.q.2.2.2.1 m.q.q.2.2.2.2.1 m.q.q.q.1 h0;unfold tV tZ;simp only [k1,k2,p1,p2,Option.bind_some]
 cases hb:xy m
 ·exact ⟨0,m.q.2.2.2.2.1,rfl,rfl,by omega,(fun _=>rfl),(fun h=>by cases h)⟩
 have hm:=k3.1 hb;have hit:=cm m.2.2.2.1 hm.items;have hl:m.2.2.2.1.length≤1048576:=by omega
 obtain ⟨a1,a2,a3⟩:=zT m.2.2.2.1 hl;have hh:=hm.heard;generalize hn:dB m.2.2.2.1=n at a1 a2 a3 hh;have aqs:n≤60:=Nat.le_trans a3.1 hit.1;obtain ⟨e,f,g1,g2,k,v,g3,g4,g5,g6,g7,g8⟩:∃e f,aG nz (m.1,m.2.1,m.2.2.1,m.2.2.2.1,m.2.2.2.2.1,m.q.1,m.q.2.1,m.q.2.2.1,m.q.2.2.2.1,m.q.2.2.2.2.1,m.q.q.1,m.q.q.2.1,m.q.q.2.2.1,m.q.q.2.2.2.1,m.q.q.2.2.2.2.1,m.q.q.q.1,(0:Int),(0:Int),[],[],[],[],(0:Int),(0:Int),(0:Int),(0:Int),(0:Int),(0:Int),(0:Int),(0:Int),(0:Int),[],m.1,m.2.1,m.2.2.1,m.2.2.2.1,m.2.2.2.2.1,m.q.1,m.q.2.1,m.q.2.2.1,m.q.2.2.2.1,m.q.2.2.2.2.1,m.q.q.1,m.q.q.2.1,m.q.q.2.2.1,m.q.q.2.2.2.1,m.q.q.2.2.2.2.1,m.q.q.q.1,[],((n:Nat):Int),())=some e∧aG nE (m.1,m.2.1,m.2.2.1,m.2.2.2.1,m.2.2.2.2.1,m.q.1,m.q.2.1,m.q.2.2.1,m.q.2.2.2.1,m.q.2.2.2.2.1,m.q.q.1,m.q.q.2.1,m.q.q.2.2.1,m.q.q.2.2.2.1,m.q.q.2.2.2.2.1,m.q.q.q.1,(0:Int),(0:Int),[],[],[],[],(0:Int),(0:Int),(0:Int),(0:Int),(0:Int),(0:Int),(0:Int),(0:Int),(0:Int),[],m.1,m.2.1,m.2.2.1,m.2.2.2.1,m.2.2.2.2.1,m.q.1,m.q.2.1,m.q.2.2.1,m.q.2.2.2.1,m.q.2.2.2.2.1,m.q.q.1,m.q.q.2.1,m.q.q.2.2.1,m.q.q.2.2.2.1,m.q.q.2.2.2.2.1,m.q.q.q.1,[],())=some f∧
   ∃(k:Nat) (v:Int),(e=.inl ((0:Int),(0:Int),[],[],[],[],(0:Int),(0:Int),(0:Int),(0:Int),(0:Int),(0:Int),(0:Int),(0:Int),(0:Int),[],m.1,m.2.1,m.2.2.1,m.2.2.2.1,m.2.2.2.2.1,m.q.1,m.q.2.1,m.q.2.2.1,m.q.2.2.2.1,v,m.q.q.1,m.q.q.2.1,m.q.q.2.2.1,m.q.q.2.2.2.1,m.q.q.2.2.2.2.1,m.q.q.q.1,ji m.2.2.2.1 m.q.2.2.2.2.1 k,())∨e=.inr (m.1,m.2.1,m.2.2.1,m.2.2.2.1,m.2.2.2.2.1,m.q.1,m.q.2.1,m.q.2.2.1,m.q.2.2.2.1,v,m.q.q.1,m.q.q.2.1,m.q.q.2.2.1,m.q.q.2.2.2.1,m.q.q.2.2.2.2.1,m.q.q.q.1,ji m.2.2.2.1 m.q.2.2.2.2.1 k,()))∧f=.inl ((0:Int),(0:Int),[],[],[],[],(0:Int),(0:Int),(0:Int),(0:Int),(0:Int),(0:Int),(0:Int),(0:Int),(0:Int),[],m.1,m.2.1,m.2.2.1,m.2.2.2.1,m.2.2.2.2.1,m.q.1,m.q.2.1,m.q.2.2.1,m.q.2.2.2.1,v,m.q.q.1,m.q.q.2.1,m.q.q.2.2.1,m.q.q.2.2.2.1,m.q.q.2.2.2.2.1,m.q.q.q.1,ji m.2.2.2.1 m.q.2.2.2.2.1 k,())∧v=m.q.2.2.2.2.1+((k:Nat):Int)∧v≤((n:Nat):Int)∧
    (∀j,j<k→¬yD m.2.2.2.1 m.q.2.2.2.1 (m.q.2.2.2.2.1+((j+1:Nat):Int)))∧(v<((n:Nat):Int)→yD m.2.2.2.1 m.q.2.2.2.1 (m.q.2.2.2.2.1+((k+1:Nat):Int))):=by
  refine nt 60 (fun k x y=>∃v:Int,x=(m.1,m.2.1,m.2.2.1,m.2.2.2.1,m.2.2.2.2.1,m.q.1,m.q.2.1,m.q.2.2.1,m.q.2.2.2.1,m.q.2.2.2.2.1,m.q.q.1,m.q.q.2.1,m.q.q.2.2.1,m.q.q.2.2.2.1,m.q.q.2.2.2.2.1,m.q.q.q.1,(0:Int),(0:Int),[],[],[],[],(0:Int),(0:Int),(0:Int),(0:Int),(0:Int),(0:Int),(0:Int),(0:Int),(0:Int),[],m.1,m.2.1,m.2.2.1,m.2.2.2.1,m.2.2.2.2.1,m.q.1,m.q.2.1,m.q.2.2.1,m.q.2.2.2.1,v,m.q.q.1,m.q.q.2.1,m.q.q.2.2.1,m.q.q.2.2.2.1,m.q.q.2.2.2.2.1,m.q.q.q.1,ji m.2.2.2.1 m.q.2.2.2.2.1 k,((n:Nat):Int),())∧y=(m.1,m.2.1,m.2.2.1,m.2.2.2.1,m.2.2.2.2.1,m.q.1,m.q.2.1,m.q.2.2.1,m.q.2.2.2.1,m.q.2.2.2.2.1,m.q.q.1,m.q.q.2.1,m.q.q.2.2.1,m.q.q.2.2.2.1,m.q.q.2.2.2.2.1,m.q.q.q.1,(0:Int),(0:Int),[],[],[],[],(0:Int),(0:Int),(0:Int),(0:Int),(0:Int),(0:Int),(0:Int),(0:Int),(0:Int),[],m.1,m.2.1,m.2.2.1,m.2.2.2.1,m.2.2.2.2.1,m.q.1,m.q.2.1,m.q.2.2.1,m.q.2.2.2.1,v,m.q.q.1,m.q.q.2.1,m.q.q.2.2.1,m.q.q.2.2.2.1,m.q.q.2.2.2.2.1,m.q.q.q.1,ji m.2.2.2.1 m.q.2.2.2.2.1 k,())∧v=m.q.2.2.2.2.1+((k:Nat):Int)∧v≤((n:Nat):Int)∧∀j,j<k→¬yD m.2.2.2.1 m.q.2.2.2.1 (m.q.2.2.2.2.1+((j+1:Nat):Int))) _ ?_ ⟨m.q.2.2.2.2.1,rfl,rfl,by omega,hh.2,fun j h=>by omega⟩
  rintro k x y hk ⟨v,rfl,rfl,q1,q2,q3⟩
  by_cases bQ:v<((n:Nat):Int)
  ·have hw:IntKind.i64.wrap (v+(1:Int))=m.q.2.2.2.2.1+((k+1:Nat):Int):=by rw [du]<;>omega
   have hbl:Nat.ble (((ji m.2.2.2.1 m.q.2.2.2.2.1 k).length+1)*40) lim=true:=aJ (by rw [oH];unfold lim;omega);have more:¬yD m.2.2.2.1 m.q.2.2.2.1 (m.q.2.2.2.2.1+((k+1:Nat):Int))→∀j,j<k+1→¬yD m.2.2.2.1 m.q.2.2.2.1 (m.q.2.2.2.2.1+((j+1:Nat):Int)):=fun hnw j hj=>by
    by_cases e:j<k
    ·exact q3 j e
    ·have:j=k:=by omega
     subst this;exact hnw
   simp only [nz,uP,nE,vt,af bQ,a2,hw,s4 m.2.2.2.1 _ hl,s5 m.2.2.2.1 _ hl,Option.bind_some,cond_true,hbl]
   by_cases c1:(oY (dS m.2.2.2.1 (m.q.2.2.2.2.1+((k+1:Nat):Int)))).2.2.1=2
   ·rw [af c1]
    by_cases c2:m.q.2.2.2.1<(oY (dS m.2.2.2.1 (m.q.2.2.2.2.1+((k+1:Nat):Int)))).1
    ·rw [af c2];exact .inl ⟨_,_,rfl,rfl,k,v,.inr rfl,rfl,q1,q2,q3,fun _=>⟨c1,c2⟩⟩
    ·rw [ai c2];exact .inr ⟨by omega,_,_,rfl,rfl,m.q.2.2.2.2.1+((k+1:Nat):Int),by rw [s6];rfl,by rw [s6];rfl,rfl,by omega,more fun h=>c2 h.2⟩
   ·rw [ai c1];exact .inr ⟨by omega,_,_,rfl,rfl,m.q.2.2.2.2.1+((k+1:Nat):Int),by rw [s6];rfl,by rw [s6];rfl,rfl,by omega,more fun h=>c1 h.1⟩
  ·simp only [nz,uP,nE,vt,ai bQ,a2,Option.bind_some,cond_false];exact .inl ⟨_,_,rfl,rfl,k,v,.inl rfl,rfl,q1,q2,q3,fun h=>absurd h bQ⟩
 simp only [a1,Option.bind_some,Bool.not_true,cond_false];rw [g1,g2,g4];refine ⟨k,v,?_,rfl,g5,(fun h=>by cases h),(fun _=>⟨by first | exact g6 | (rw [hn];exact g6),g7,fun h=>g8 (by first | exact h | (rw [hn] at h;exact h))⟩)⟩;rcases g3 with rfl | rfl
 ·rfl
 ·rfl
end Go.TM
set_option linter.unusedSimpArgs false
set_option linter.unusedVariables false
namespace Go.TM
open Go
def Sh {A B C:Type} (P:A→Prop):Sum A B→Sum A C→Prop
 |.inl a,.inl b=>a=b∧P a
 |_,_=>False
theorem Ib (dg:Int) (dh:Int) (bq:Int) (cM:Int) (cQ:Int) (ch:List (Int×Unit)) (bz:Int) (cA:List (Int×Unit)) (aQ:List (ByteArray×Unit)) (h0:List.length ch≤1048576):∃o0 o1 o2 o3 o4 o5 o6,sV dg dh bq cM cQ ch bz cA aQ=some (o0,o1,o2,o3,o4,o5,o6,())∧mT dg dh bq cM cQ ch bz cA aQ=some (o0,o1,o2,o3,o4,o5,o6,())∧o5=ch∧(List.length o6+wl dA o6)≤1048576:=by
 obtain ⟨b,k1,k2,k3⟩:=vK dg dh bq cM cQ ch (by omega);obtain ⟨c1,c2⟩:=gF dg dh bq cM cQ ch (by omega);have hm:(if (3:Int)<((List.length aQ:Nat):Int) then (3:Int) else ((List.length aQ:Nat):Int))=((min 3 aQ.length:Nat):Int):=by split<;>omega
 unfold sV mT;simp only [k1,k2,c1,c2,n5,q7,Option.bind_some]
 cases b
 ·cases (decide (1≤bz)&&decide (bz≤5))
  ·exact ⟨_,_,_,_,_,ch,[],rfl,rfl,rfl,by decide⟩
  ·exact ⟨_,_,_,_,_,ch,[],rfl,rfl,rfl,by decide⟩
 cases (decide (1≤bz)&&decide (bz≤5))
 ·exact ⟨_,_,_,_,_,ch,[],rfl,rfl,rfl,by decide⟩
 obtain ⟨z1,z2,z3,z4,z5,z6⟩:=k3 rfl;have SF:(aQ.take (min 3 aQ.length)).length=min 3 aQ.length:=by simp
 simp only [Bool.not_true,cond_false,hm,az,ak,cond_true,List.drop_zero,SF,af (show ((min 3 aQ.length:Nat):Int)≤((List.length aQ:Nat):Int) by omega)];obtain ⟨e,f,g1,g2,g3⟩:∃e f,aG jy (bz,cA,aQ,dg,dh,bq,cM,cQ,ch,(0:Int),(0:Int),(0:Int),(0:Int),(0:Int),[],dg,dh,bq,cM,cQ,ch,[],(0:Int),())=some e∧
   aG dz (bz,cA,dg,dh,bq,cM,cQ,ch,(0:Int),(0:Int),(0:Int),(0:Int),(0:Int),[],dg,dh,bq,cM,cQ,ch,[],aQ.take (min 3 aQ.length),((min 3 aQ.length:Nat):Int),(0:Int),())=some f∧
   Sh (fun v=>∃(q:Int) (l:aS),v=(dg,dh,bq,cM,cQ,ch,(0:Int),(0:Int),(0:Int),(0:Int),(0:Int),[],dg,dh,q,cM,cQ,ch,l,())∧l.length≤3∧wl dA l≤180) e f:=by
  refine nt 3 (fun k x y=>∃l:aS,x=(bz,cA,aQ,dg,dh,bq,cM,cQ,ch,(0:Int),(0:Int),(0:Int),(0:Int),(0:Int),[],dg,dh,bq+((k:Nat):Int),cM,cQ,ch,l,((k:Nat):Int),())∧
   y=(bz,cA,dg,dh,bq,cM,cQ,ch,(0:Int),(0:Int),(0:Int),(0:Int),(0:Int),[],dg,dh,bq+((k:Nat):Int),cM,cQ,ch,l,aQ.take (min 3 aQ.length),((min 3 aQ.length:Nat):Int),((k:Nat):Int),())∧l.length=k∧wl dA l≤60*k) _ ?_ ⟨[],by rw [show bq+((0:Nat):Int)=bq by omega];rfl,by rw [show bq+((0:Nat):Int)=bq by omega];rfl,rfl,Nat.le_refl _⟩
  rintro k x y hk ⟨l,rfl,rfl,q1,q2⟩
  have stop:∀ {A B:Type} (u:Sum _ A) (v:Sum _ B),u=.inl (dg,dh,bq,cM,cQ,ch,(0:Int),(0:Int),(0:Int),(0:Int),(0:Int),([]:List (Int×Unit)),dg,dh,bq+((k:Nat):Int),cM,cQ,ch,l,())→v=.inl (dg,dh,bq,cM,cQ,ch,(0:Int),(0:Int),(0:Int),(0:Int),(0:Int),([]:List (Int×Unit)),dg,dh,bq+((k:Nat):Int),cM,cQ,ch,l,())→
    Sh (fun v=>∃(q:Int) (l:aS),v=(dg,dh,bq,cM,cQ,ch,(0:Int),(0:Int),(0:Int),(0:Int),(0:Int),([]:List (Int×Unit)),dg,dh,q,cM,cQ,ch,l,())∧l.length≤3∧wl dA l≤180) u v:=by
   intro A B u v e1 e2;subst e1 e2;exact ⟨rfl,_,l,rfl,by omega,by omega⟩
  by_cases h1:k<aQ.length
  ·by_cases h4:k<3
   ·have ZN:k<min 3 aQ.length:=by omega
    have z8:(aQ.take (min 3 aQ.length))[k]?=some aQ[k]:=by rw [List.getElem?_take_of_lt ZN];exact List.getElem?_eq_getElem h1
    have e1:IntKind.i64.wrap ((bq+((k:Nat):Int))+(1:Int))=bq+((k+1:Nat):Int):=by rw [du]<;>omega
    simp only [jy,nB,dz,fN,ax h1,ax ZN,af (show ((k:Nat):Int)<(3:Int) by omega),ak,cond_true,az,List.getElem?_eq_getElem h1,z8,Option.bind_some,e1,aJ (show (l.length+1)*40≤lim by unfold lim;omega),aE (show k<4611686018427387904 by omega)]
    by_cases h5:bq+((k:Nat):Int)<60
    ·rw [af h5,ai (show ¬(60:Int)≤bq+((k:Nat):Int) by omega)]
     by_cases h6:((ByteArray.size aQ[k].1:Nat):Int)≤60
     ·rw [af h6,ai (show ¬(60:Int)<((ByteArray.size aQ[k].1:Nat):Int) by omega)];have add:∀lv:Int,wl dA (l++[(bq+((k+1:Nat):Int),bz,lv,aQ[k].1,())])≤60*(k+1):=by
       intro lv;rw [Ey];have:wl dA [(bq+((k+1:Nat):Int),bz,lv,aQ[k].1,())]=ByteArray.size aQ[k].1:=rfl;omega
      by_cases h7:k<cA.length
      ·rw [ax h7];simp only [cond_true,cond_false,List.getElem?_eq_getElem h7,Option.bind_some]
       cases decide (cA[k].1=2)
       ·exact .inr ⟨h4,_,_,rfl,rfl,_,rfl,rfl,by simp [q1],add 1⟩
       ·exact .inr ⟨h4,_,_,rfl,rfl,_,rfl,rfl,by simp [q1],add 2⟩
      ·rw [ai (show ¬((k:Nat):Int)<((List.length cA:Nat):Int) by omega)];exact .inr ⟨h4,_,_,rfl,rfl,_,rfl,rfl,by simp [q1],add 1⟩
     ·rw [ai h6,af (show (60:Int)<((ByteArray.size aQ[k].1:Nat):Int) by omega)];exact .inl ⟨_,_,rfl,rfl,stop _ _ rfl rfl⟩
    ·rw [ai h5,af (show (60:Int)≤bq+((k:Nat):Int) by omega)];exact .inl ⟨_,_,rfl,rfl,stop _ _ rfl rfl⟩
   ·have SG:k=3:=by omega
    refine .inl ⟨_,_,?_,?_,stop _ _ rfl rfl⟩
    ·simp only [jy,nB,ax h1,ai (show ¬((k:Nat):Int)<(3:Int) by omega),cond_true,cond_false]
    ·simp only [dz,fN,ai (show ¬((k:Nat):Int)<((min 3 aQ.length:Nat):Int) by omega),cond_false]
  ·refine .inl ⟨_,_,?_,?_,stop _ _ rfl rfl⟩
   ·simp only [jy,nB,ai (show ¬((k:Nat):Int)<((List.length aQ:Nat):Int) by omega),cond_false]
   ·simp only [dz,fN,ai (show ¬((k:Nat):Int)<((min 3 aQ.length:Nat):Int) by omega),cond_false]
 rw [g1,g2]
 cases e with
 |inr e=>exact g3.elim
 |inl e=>cases f with
  |inr f=>exact g3.elim
  |inl f=>
   obtain ⟨rfl,q,l,rfl,q1,q2⟩:=g3;simp only [dZ]
   cases decide (cM=bq)
   ·exact ⟨_,_,_,_,_,ch,l,rfl,rfl,rfl,by omega⟩
   ·cases decide (cQ=0)
    ·exact ⟨_,_,_,_,_,ch,l,rfl,rfl,rfl,by omega⟩
    ·exact ⟨_,_,_,_,_,ch,l,rfl,rfl,rfl,by omega⟩
end Go.TM
set_option linter.unusedSimpArgs false
set_option linter.unusedVariables false
namespace Go.TM
open Go
def xX (c2 from_:Int) (level:List (Int×Unit)) (texts:List (ByteArray×Unit)) (j:Nat):dn:=
 (c2+((j+1:Nat):Int),from_,(bif decide (j<level.length)&&decide ((level.getD j ((0:Int),())).1=2) then 2 else 1),(texts.getD j (ByteArray.empty,())).1,())
def dL (c2 from_:Int) (level:List (Int×Unit)) (texts:List (ByteArray×Unit)) (m:Nat):aS:=(List.range m).map (xX c2 from_ level texts)
theorem j3 (c2 from_:Int) (level:List (Int×Unit)) (texts:List (ByteArray×Unit)) (m:Nat):(dL c2 from_ level texts m).length=m:=by simp [dL]
theorem FV (c2 from_:Int) (level:List (Int×Unit)) (texts:List (ByteArray×Unit)) (m:Nat):dL c2 from_ level texts (m+1)=dL c2 from_ level texts m++[xX c2 from_ level texts m]:=by
 unfold dL;rw [List.range_succ,List.map_append];rfl
def DE (c2:Int) (texts:List (ByteArray×Unit)) (m:Nat):Prop:=m=min 3 texts.length∨60≤c2+((m:Nat):Int)∨∃h:m<texts.length,60<ByteArray.size texts[m].1
theorem Me (dg:Int) (dh:Int) (bq:Int) (cM:Int) (cQ:Int) (ch:List (Int×Unit)) (bz:Int) (cA:List (Int×Unit)) (aQ:List (ByteArray×Unit)) (h0:List.length ch≤1048576) (h3:List.length aQ≤1048576) (hd:1≤bz∧bz≤5) (ht:ZL dg dh bq cM cQ ch) :
  ∃m t3,mT dg dh bq cM cQ ch bz cA aQ=some (dg,dh,bq+((m:Nat):Int),t3,cQ,ch,dL bq bz cA aQ m,())∧m≤3∧m≤aQ.length∧bq+((m:Nat):Int)≤60∧(t3=cM∨t3=bq+((m:Nat):Int))∧DE bq aQ m∧t3=(if cM=bq∧cQ=0 then bq+((m:Nat):Int) else cM):=by
 obtain ⟨b,_,k2,k3⟩:=G4 dg dh bq cM cQ ch h0;have hb:=k3.2 ht;subst hb;obtain ⟨_,c2⟩:=gF dg dh bq cM cQ ch h0;obtain ⟨_,_,z2,z3,_⟩:=ht;have hm:(if (3:Int)<((List.length aQ:Nat):Int) then (3:Int) else ((List.length aQ:Nat):Int))=((min 3 aQ.length:Nat):Int):=by split<;>omega
 have SF:(aQ.take (min 3 aQ.length)).length=min 3 aQ.length:=by simp
 unfold mT;simp only [k2,c2,q7,af hd.1,af hd.2,Bool.and_self,Option.bind_some,Bool.not_true,cond_false,hm,az,ak,cond_true,List.drop_zero,SF,af (show ((min 3 aQ.length:Nat):Int)≤((List.length aQ:Nat):Int) by omega)];have fin:∀(k:Nat),∃v:Int×Int×Int×Int×Int×(List (Int×Unit))×Int×Int×Int×Int×Int×(List (Int×Unit))×Int×Int×Int×Int×Int×(List (Int×Unit))×aS×Unit,v=(dg,dh,bq,cM,cQ,ch,(0:Int),(0:Int),(0:Int),(0:Int),(0:Int),[],dg,dh,bq+((k:Nat):Int),cM,cQ,ch,dL bq bz cA aQ k,()):=fun k=>⟨_,rfl⟩
 obtain ⟨e,g1,m,g2,g3,g4,g5,g6⟩:∃e,aG dz (bz,cA,dg,dh,bq,cM,cQ,ch,(0:Int),(0:Int),(0:Int),(0:Int),(0:Int),[],dg,dh,bq,cM,cQ,ch,[],aQ.take (min 3 aQ.length),((min 3 aQ.length:Nat):Int),(0:Int),())=some e∧
   ∃m:Nat,e=.inl (dg,dh,bq,cM,cQ,ch,(0:Int),(0:Int),(0:Int),(0:Int),(0:Int),[],dg,dh,bq+((m:Nat):Int),cM,cQ,ch,dL bq bz cA aQ m,())∧m≤3∧m≤aQ.length∧bq+((m:Nat):Int)≤60∧DE bq aQ m:=by
  refine dw (min 3 aQ.length) (fun k x=>x=(bz,cA,dg,dh,bq,cM,cQ,ch,(0:Int),(0:Int),(0:Int),(0:Int),(0:Int),[],dg,dh,bq+((k:Nat):Int),cM,cQ,ch,dL bq bz cA aQ k,aQ.take (min 3 aQ.length),((min 3 aQ.length:Nat):Int),((k:Nat):Int),())∧bq+((k:Nat):Int)≤60) _ ?_ ?_ ⟨by rw [show bq+((0:Nat):Int)=bq by omega];rfl,by omega⟩
  ·rintro x ⟨rfl,q⟩
   exact ⟨_,by simp only [dz,fN,aC,cond_false],_,rfl,by omega,by omega,q,.inl rfl⟩
  ·rintro k x ZN ⟨rfl,q⟩
   have h1:k<aQ.length:=by omega
   have z8:(aQ.take (min 3 aQ.length))[k]?=some aQ[k]:=by rw [List.getElem?_take_of_lt ZN];exact List.getElem?_eq_getElem h1
   have hgt:(aQ.getD k (ByteArray.empty,())).1=aQ[k].1:=by rw [List.getD_eq_getElem?_getD,List.getElem?_eq_getElem h1,Option.getD_some]
   have stop:DE bq aQ k→∃m:Nat,(.inl (dg,dh,bq,cM,cQ,ch,(0:Int),(0:Int),(0:Int),(0:Int),(0:Int),[],dg,dh,bq+((k:Nat):Int),cM,cQ,ch,dL bq bz cA aQ k,()):Sum _ Unit)=.inl (dg,dh,bq,cM,cQ,ch,(0:Int),(0:Int),(0:Int),(0:Int),(0:Int),([]:List (Int×Unit)),dg,dh,bq+((m:Nat):Int),cM,cQ,ch,dL bq bz cA aQ m,())∧m≤3∧m≤aQ.length∧bq+((m:Nat):Int)≤60∧DE bq aQ m:=
    fun hq=>⟨k,rfl,by omega,by omega,q,hq⟩
   by_cases h5:(60:Int)≤bq+((k:Nat):Int)
   ·refine .inl ⟨_,?_,stop (.inr (.inl h5))⟩;simp only [dz,fN,ax ZN,ak,cond_true,az,z8,Option.bind_some,af h5]
   have e1:IntKind.i64.wrap ((bq+((k:Nat):Int))+(1:Int))=bq+((k+1:Nat):Int):=by rw [du]<;>omega
   by_cases h6:(60:Int)<((ByteArray.size aQ[k].1:Nat):Int)
   ·refine .inl ⟨_,?_,stop (.inr (.inr ⟨h1,by omega⟩))⟩;simp only [dz,fN,ax ZN,ak,cond_true,cond_false,az,z8,Option.bind_some,ai h5,af h6]
   refine .inr ⟨_,?_,rfl,by omega⟩;have hlen:=j3 bq bz cA aQ k;simp only [dz,fN,ax ZN,ak,cond_true,cond_false,az,z8,Option.bind_some,ai h5,ai h6,e1,hlen,aJ (show (k+1)*40≤lim by unfold lim;omega),aE (show k<4611686018427387904 by omega)];rw [FV];unfold xX;rw [hgt]
   by_cases h7:k<cA.length
   ·have hgl:cA.getD k ((0:Int),())=cA[k]:=by rw [List.getD_eq_getElem?_getD,List.getElem?_eq_getElem h7,Option.getD_some]
    rw [ax h7,af h7,hgl];simp only [cond_true,List.getElem?_eq_getElem h7,Option.bind_some,Bool.true_and]
    cases decide (cA[k].1=2)<;>rfl
   ·rw [ai (show ¬((k:Nat):Int)<((List.length cA:Nat):Int) by omega),ai h7];rfl
 rw [g1];subst g2;simp only [dZ]
 by_cases w1:cM=bq
 ·rw [af w1]
  by_cases w2:cQ=0
  ·rw [af w2];exact ⟨m,_,rfl,g3,g4,g5,.inr rfl,g6,by rw [if_pos ⟨w1,w2⟩]⟩
  ·rw [ai w2];exact ⟨m,_,rfl,g3,g4,g5,.inl rfl,g6,by rw [if_neg (fun h=>w2 h.2)]⟩
 ·rw [ai w1];exact ⟨m,_,rfl,g3,g4,g5,.inl rfl,g6,by rw [if_neg (fun h=>w1 h.1)]⟩
end Go.TM
set_option linter.unusedSimpArgs false
set_option linter.unusedVariables false
namespace Go.TM
open Go
def C5 (c2 c3 c4 d a:Int):Int:=if a<c3 then a else if c4=d then (if c2<a then c2 else a) else c3
def C6 (c2 c3 c4 d a:Int):Int:=if a<c3 then d else if c4=d then (if c2≤a then 0 else c4) else c4
theorem Si (c0 c1 c2 c3 c4:Int) (xs:List (Int×Unit)) (d a:Int) (h:xs.length≤1048576) {b:Bool} (hb:dI c0 c1 c2 c3 c4 xs=some (b,())) :
  ∃t3 t4,xP c0 c1 c2 c3 c4 xs d a=some (c0,c1,c2,t3,t4,xs,())∧xU c0 c1 c2 c3 c4 xs d a=some (c0,c1,c2,t3,t4,xs,())∧
   (b=false∨d<1∨5<d∨a<0→t3=c3∧t4=c4)∧(b=true→1≤d→d≤5→0≤a→0≤c3→c3≤c2→0≤t3∧t3≤c2∧t3≤a∧(t3≤c3∨c4=d)∧(t4=c4∨t4=d∨(t4=0∧c4=d)))∧(b=true→1≤d→d≤5→0≤a→t3=C5 c2 c3 c4 d a∧t4=C6 c2 c3 c4 d a):=by
 obtain ⟨b',h1,h2,_⟩:=vK c0 c1 c2 c3 c4 xs h;rw [hb] at h1;obtain rfl:b=b':=by injection h1 with h1;injection h1
 obtain ⟨h3,h4⟩:=gF c0 c1 c2 c3 c4 xs h;unfold xP xU;simp only [Option.bind_some,hb,h2,h3,h4,n5,q7]
 cases b
 ·have:∀t3 t4:Int,t3=c3→t4=c4→(false=false∨d<1∨5<d∨a<0→t3=c3∧t4=c4)∧(false=true→1≤d→d≤5→0≤a→0≤c3→c3≤c2→0≤t3∧t3≤c2∧t3≤a∧(t3≤c3∨c4=d)∧(t4=c4∨t4=d∨(t4=0∧c4=d)))∧(false=true→1≤d→d≤5→0≤a→t3=C5 c2 c3 c4 d a∧t4=C6 c2 c3 c4 d a):=
   fun t3 t4 e1 e2=>⟨fun _=>⟨e1,e2⟩,(fun h=>by cases h),(fun h=>by cases h)⟩
  cases (decide (1≤d)&&decide (d≤5))
  ·exact ⟨_,_,rfl,rfl,this _ _ rfl rfl⟩
  cases decide (a<0)
  ·exact ⟨_,_,rfl,rfl,this _ _ rfl rfl⟩
  ·exact ⟨_,_,rfl,rfl,this _ _ rfl rfl⟩
 by_cases hd:1≤d∧d≤5
 ·rw [af hd.1,af hd.2]
  by_cases ha:a<0
  ·rw [af ha];exact ⟨_,_,rfl,rfl,(fun _=>⟨rfl,rfl⟩),(fun _ _ _ h=>by omega),(fun _ _ _ h=>by omega)⟩
  rw [ai ha];have no:∀ {A:Prop},(true=false∨d<1∨5<d∨a<0)→A:=by
   rintro A (h | h | h | h)
   ·cases h
   ·omega
   ·omega
   ·omega
  by_cases h5:a<c3
  ·rw [af h5];exact ⟨_,_,rfl,rfl,no,(fun _ _ _ _ _ _=>⟨by omega,by omega,by omega,.inl (by omega),.inr (.inl rfl)⟩),fun _ _ _ _=>by unfold C5 C6;rw [if_pos h5,if_pos h5];exact ⟨rfl,rfl⟩⟩
  rw [ai h5]
  by_cases h6:c4=d
  ·rw [af h6]
   by_cases h7:c2<a
   ·rw [af h7,if_pos h7,af (show c2=c2 from rfl)];exact ⟨_,_,rfl,rfl,no,(fun _ _ _ _ _ _=>⟨by omega,by omega,by omega,.inr h6,.inr (.inr ⟨rfl,h6⟩)⟩),fun _ _ _ _=>by unfold C5 C6;rw [if_neg h5,if_neg h5,if_pos h6,if_pos h6,if_pos h7,if_pos (by omega)];exact ⟨rfl,rfl⟩⟩
   ·rw [ai h7,if_neg h7]
    by_cases h8:a=c2
    ·rw [af h8];exact ⟨_,_,rfl,rfl,no,(fun _ _ _ _ _ _=>⟨by omega,by omega,by omega,.inr h6,.inr (.inr ⟨rfl,h6⟩)⟩),fun _ _ _ _=>by unfold C5 C6;rw [if_neg h5,if_neg h5,if_pos h6,if_pos h6,if_neg h7,if_pos (by omega)];exact ⟨rfl,rfl⟩⟩
    ·rw [ai h8];exact ⟨_,_,rfl,rfl,no,(fun _ _ _ _ _ _=>⟨by omega,by omega,by omega,.inr h6,.inl rfl⟩),fun _ _ _ _=>by unfold C5 C6;rw [if_neg h5,if_neg h5,if_pos h6,if_pos h6,if_neg h7,if_neg (by omega)];exact ⟨rfl,rfl⟩⟩
  ·rw [ai h6];exact ⟨_,_,rfl,rfl,no,(fun _ _ _ _ _ _=>⟨by omega,by omega,by omega,.inl (by omega),.inl rfl⟩),fun _ _ _ _=>by unfold C5 C6;rw [if_neg h5,if_neg h5,if_neg h6,if_neg h6];exact ⟨rfl,rfl⟩⟩
 ·have e:(decide (1≤d)&&decide (d≤5))=false:=by
   cases hq:(decide (1≤d)&&decide (d≤5))
   ·rfl
   ·rw [Bool.and_eq_true,decide_eq_true_eq,decide_eq_true_eq] at hq;exact absurd hq hd
  rw [e];exact ⟨_,_,rfl,rfl,(fun _=>⟨rfl,rfl⟩),(fun _ h1 h2=>absurd ⟨h1,h2⟩ hd),(fun _ h1 h2=>absurd ⟨h1,h2⟩ hd)⟩
end Go.TM
set_option linter.unusedSimpArgs false
set_option linter.unusedVariables false
namespace Go.TM
open Go
theorem Ic (d:Int) (xs:List (Int×Unit)) (h:xs.length≤1048576):eo xs d=some (decide (d∈bm xs),()):=by
 obtain ⟨e,he,hq⟩:=dw (round:=cZ) (x:=(xs,d,((0:Nat):Int),())) xs.length (fun k x=>x=(xs,d,((k:Nat):Int),())∧d∉bm (xs.take k)) (fun e=>(e=.inl ()∧d∉bm xs)∨(e=.inr (true,())∧d∈bm xs)) (by
   rintro x ⟨rfl,g⟩
   rw [List.take_length] at g;exact ⟨.inl (),by simp only [cZ,jf,aC,cond_false],.inl ⟨rfl,g⟩⟩) (by
   rintro k x hk ⟨rfl,g⟩
   simp only [cZ,jf,ax hk,ak,cond_true,az,List.getElem?_eq_getElem hk,Option.bind_some,aE (show k<4611686018427387904 by omega)]
   by_cases e:xs[k].1=d
   ·rw [af e];exact .inl ⟨_,rfl,.inr ⟨rfl,by rw [←e];exact List.mem_map_of_mem (List.getElem_mem hk)⟩⟩
   ·rw [ai e];refine .inr ⟨_,rfl,rfl,?_⟩;rw [List.take_succ_eq_append_getElem hk];unfold bm at g ⊢;rw [List.map_append,List.mem_append]
    rintro (h1 | h1)
    ·exact g h1
    ·simp only [List.map_cons,List.map_nil,List.mem_singleton] at h1;exact e h1.symm) ⟨rfl,by simp [bm]⟩
 have he:aG cZ (xs,d,(0:Int),())=some e:=he;unfold eo;rw [he];rcases hq with ⟨rfl,g⟩ | ⟨rfl,g⟩
 ·rw [ai g];rfl
 ·rw [af g];rfl
theorem Ie (d:Int) (xs:List (Int×Unit)) (h:xs.length≤1048576):cn xs d=some (decide (d∈bm xs),()):=by
 obtain ⟨b,h1,h2⟩:=tp d xs h;rw [Ic d xs h] at h1;injection h1 with h1;injection h1 with h1 _;rw [h2,h1]
def hasB (list:aS) (s:Int):Bool:=(dS list s).isSome
theorem xA (o:Option dn):(oY o).2.2.2.2.1=o.isSome:=by cases o<;>rfl
def Ig {B C:Type} (list:aS) (u:Int):Sum ((List (Int×Unit))×Unit) B→Sum ((List (Int×Unit))×Unit) C→Prop
 |.inl a,.inl b=>a=b∧∃ms:List Int,a.1=aW ms∧ms.length≤20∧∀s∈ms,1≤s∧s≤u∧hasB list s=false
 |_,_=>False
theorem Bm (list:aS) (upto u:Int) (n:Nat) (h:list.length≤1048576) (hn:n≤1048576) (hu:(if (60:Int)<upto then (60:Int) else upto)=u) (aqu:u≤60) :
  ∃e f,aG gk (list,u,[],((n+1:Nat):Int),())=some e∧aG iD (list,upto,[],((n+1:Nat):Int),())=some f∧Ig list u e f:=by
 refine nt 61 (fun k x y=>∃ms:List Int,x=(list,u,aW ms,((n+1+k:Nat):Int),())∧y=(list,upto,aW ms,((n+1+k:Nat):Int),())∧ms.length≤20∧∀s∈ms,1≤s∧s≤u∧hasB list s=false) (Ig list u) ?_ ⟨[],rfl,rfl,by simp,fun s hs=>by cases hs⟩
 rintro k x y hk ⟨ms,rfl,rfl,q1,q2⟩
 have stop:Ig (B:=Unit) (C:=Unit) list u (.inl (aW ms,())) (.inl (aW ms,())):=⟨rfl,ms,rfl,q1,q2⟩
 by_cases bQ:((n+1+k:Nat):Int)≤u
 case neg=>
  refine .inl ⟨.inl (aW ms,()),.inl (aW ms,()),?_,?_,⟨rfl,ms,rfl,q1,q2⟩⟩
  ·simp only [gk,mo,ai bQ,cond_false]
  ·simp only [iD,mw,hu,ai bQ,cond_false]
 by_cases VM:((List.length (aW ms):Nat):Int)<20
 case neg=>
  refine .inl ⟨.inl (aW ms,()),.inl (aW ms,()),?_,?_,⟨rfl,ms,rfl,q1,q2⟩⟩
  ·simp only [gk,mo,af bQ,ai VM,cond_true,cond_false]
  ·simp only [iD,mw,hu,af bQ,ai VM,cond_true,cond_false]
 have hl:(aW ms).length=ms.length:=cf ms;simp only [gk,mo,iD,mw,hu,af bQ,af VM,cond_true,s4 list _ h,s5 list _ h,Option.bind_some,xA,aJ (show ((aW ms).length+1)*8≤lim by unfold lim;omega),aE (show n+1+k<4611686018427387904 by omega)]
 cases hh:(dS list ((n+1+k:Nat):Int)).isSome
 ·refine .inr ⟨by omega,_,_,rfl,rfl,ms++[((n+1+k:Nat):Int)],by simp [aW];omega,by simp [aW];omega,by simp;omega,fun s hs => ?_⟩;rcases List.mem_append.1 hs with hs | hs
  ·exact q2 s hs
  ·rw [List.mem_singleton] at hs;subst hs;exact ⟨by omega,by omega,hh⟩
 ·exact .inr ⟨by omega,_,_,rfl,rfl,ms,by rw [show n+1+k+1=n+1+(k+1) by omega],by rw [show n+1+k+1=n+1+(k+1) by omega],q1,q2⟩
theorem Ke (list:aS) (upto:Int) (h:list.length≤1048576):∃ms:List Int,nC list upto=some (aW ms,())∧nI list upto=some (aW ms,())∧ms.length≤20∧∀s∈ms,1≤s∧(s≤60∧s≤upto)∧hasB list s=false:=by
 obtain ⟨n,a1,a2,a3,_⟩:=E4 list h;have hw:IntKind.i64.wrap (((n:Nat):Int)+(1:Int))=((n+1:Nat):Int):=aE (by omega);unfold nC nI;simp only [a1,a2,Option.bind_some,hw]
 by_cases hu:(60:Int)<upto
 ·obtain ⟨e,f,g1,g2,g3⟩:=Bm list upto 60 n h (by omega) (if_pos hu) (by omega);rw [af hu];simp only [cond_true,g1,g2]
  cases e with
  |inr e=>exact g3.elim
  |inl e=>cases f with
   |inr f=>exact g3.elim
   |inl f=>
    obtain ⟨rfl,ms,k1,k2,k3⟩:=g3;simp only [dZ];exact ⟨ms,by rw [k1],by rw [k1],k2,fun s hs=>⟨(k3 s hs).1,⟨(k3 s hs).2.1,by have:=(k3 s hs).2.1;omega⟩,(k3 s hs).2.2⟩⟩
 ·obtain ⟨e,f,g1,g2,g3⟩:=Bm list upto upto n h (by omega) (if_neg hu) (by omega);rw [ai hu];simp only [cond_false,g1,g2]
  cases e with
  |inr e=>exact g3.elim
  |inl e=>cases f with
   |inr f=>exact g3.elim
   |inl f=>
    obtain ⟨rfl,ms,k1,k2,k3⟩:=g3;simp only [dZ];exact ⟨ms,by rw [k1],by rw [k1],k2,fun s hs=>⟨(k3 s hs).1,⟨by have:=(k3 s hs).2.1;omega,(k3 s hs).2.1⟩,(k3 s hs).2.2⟩⟩
theorem E9:∀(a b:List Int),a.Pairwise (· < ·)→b.Pairwise (· < ·)→(∀x,x∈a↔x∈b)→a=b
 | [],[],_,_,_=>rfl
 | [],y::b,_,_,h=>absurd ((h y).2 List.mem_cons_self) (by simp)
 |x::a,[],_,_,h=>absurd ((h x).1 List.mem_cons_self) (by simp)
 |x::a,y::b,ha,hb,h=>by
  rw [List.pairwise_cons] at ha hb;have hxy:x=y:=by
   rcases List.mem_cons.1 ((h x).1 List.mem_cons_self) with e | e
   ·exact e
   ·have h1:=hb.1 x e;rcases List.mem_cons.1 ((h y).2 List.mem_cons_self) with e2 | e2
    ·exact e2.symm
    ·have h2:=ha.1 y e2;omega
  subst hxy
  congr 1
  refine E9 a b ha.2 hb.2 fun z=>⟨fun hz => ?_,fun hz => ?_⟩
  ·rcases List.mem_cons.1 ((h z).1 (List.mem_cons_of_mem _ hz)) with e | e
   ·have:=ha.1 z hz;omega
   ·exact e
  ·rcases List.mem_cons.1 ((h z).2 (List.mem_cons_of_mem _ hz)) with e | e
   ·have:=hb.1 z hz;omega
   ·exact e
theorem Uy (l:List Int):(l.mergeSort fun x y=>decide (x≤y)).Pairwise (· ≤ ·):=by
 have:=List.pairwise_mergeSort (le:=fun x y:Int=>decide (x≤y)) (fun a b c h1 h2=>by simp only [decide_eq_true_eq] at *;omega) (fun a b=>by simp only [Bool.or_eq_true,decide_eq_true_eq];omega) l;exact this.imp fun h=>by simpa using h
theorem Sj (l:List Int) (x:Int):x∈(l.mergeSort fun x y=>decide (x≤y))↔x∈l:=(List.mergeSort_perm l _).mem_iff
theorem uc (l:List Int) (j:Nat) (h:j<l.length):l.toArray[j]! = l[j]:=by
 rw [getElem!_pos l.toArray j (by simpa using h)];simp
theorem Fa (l:List Int) (h:l.Pairwise (· ≤ ·)):(Lib.compact l).Pairwise (· < ·):=by
 unfold Lib.compact Lib.compactUpTo;rw [List.pairwise_map];have hr:((List.range l.length).filter (Lib.keeps l.toArray)).Pairwise (· < ·):=List.Pairwise.filter _ List.pairwise_lt_range;refine hr.imp_of_mem fun {i j} hi hj hij => ?_
 obtain ⟨hi1,_⟩:=List.mem_filter.1 hi;obtain ⟨SN,JK⟩:=List.mem_filter.1 hj;have hi1:=List.mem_range.1 hi1;have SN:=List.mem_range.1 SN;have hk:l.toArray[j]! ≠ l.toArray[j-1]! := by
  unfold Lib.keeps at JK;rw [decide_eq_true_eq] at JK;exact JK.resolve_left (by omega)
 have hp:=List.pairwise_iff_getElem.1 h;have h1:=hp (j-1) j (by omega) SN (by omega);rw [uc l j SN,uc l (j-1) (by omega)] at hk;rw [uc l i hi1,uc l j SN]
 by_cases e:i=j-1
 ·subst e;omega
 ·have h2:=hp i (j-1) hi1 (by omega) (by omega);omega
theorem Kf (l:List Int) (x:Int):x∈Lib.compact l↔x∈l:=by
 unfold Lib.compact Lib.compactUpTo;rw [List.mem_map]
 constructor
 ·rintro ⟨j,hj,rfl⟩
  have SN:=List.mem_range.1 (List.mem_filter.1 hj).1;rw [uc l j SN];exact List.getElem_mem SN
 ·intro hx;have key:∀j,j<l.length→∃i,i∈(List.range l.length).filter (Lib.keeps l.toArray)∧l.toArray[i]! = l.toArray[j]! := by
   intro j
   induction j with
   |zero=>intro h0;exact ⟨0,List.mem_filter.2 ⟨List.mem_range.2 h0,by simp [Lib.keeps]⟩,rfl⟩
   |succ j ih=>
    intro hj
    by_cases e:l.toArray[j+1]! = l.toArray[j]!
    ·obtain ⟨i,h1,h2⟩:=ih (by omega);exact ⟨i,h1,by rw [h2,e]⟩
    ·exact ⟨j+1,List.mem_filter.2 ⟨List.mem_range.2 hj,by unfold Lib.keeps;rw [decide_eq_true_eq,Nat.add_sub_cancel];exact .inr e⟩,rfl⟩
  obtain ⟨j,hj,rfl⟩:=List.mem_iff_getElem.1 hx;obtain ⟨i,h1,h2⟩:=key j hj;exact ⟨i,h1,by rw [h2,uc l j hj]⟩
def ints (n:Nat):List Int:=(List.range n).map fun i=>((i+1:Nat):Int)
theorem G7 (n:Nat):ints (n+1)=ints n++[((n+1:Nat):Int)]:=by
 unfold ints;rw [List.range_succ,List.map_append];rfl
theorem Sk (n:Nat) (x:Int):x∈ints n↔1≤x∧x≤((n:Nat):Int):=by
 unfold ints;rw [List.mem_map]
 constructor
 ·rintro ⟨i,hi,rfl⟩
  have:=List.mem_range.1 hi;omega
 ·rintro ⟨h1,h2⟩
  exact ⟨(x-1).toNat,List.mem_range.2 (by omega),by omega⟩
theorem C7 (n:Nat):(ints n).Pairwise (· < ·):=by
 unfold ints;rw [List.pairwise_map];exact List.pairwise_lt_range.imp fun h=>by omega
theorem Fb:∀(k d:Nat),∃r,ints (k+d)=ints k++r
 |k,0=>⟨[],by simp⟩
 |k,d+1=>by
  obtain ⟨r,h⟩:=Fb k d;exact ⟨r++[((k+d+1:Nat):Int)],by rw [show k+(d+1)=(k+d)+1 by omega,G7,h,List.append_assoc]⟩
theorem Mf (a b:List Int):aW (a++b)=aW a++aW b:=by simp [aW]
theorem Kg (a:List Int) (n:Nat):aW (a.take n)=(aW a).take n:=by simp [aW,List.map_take]
theorem oZ (a:List Int):bm (aW a)=a:=by simp [bm,aW,Function.comp_def]
def gK (list:aS) (xs:List (Int×Unit)) (ms:List Int) (s:Int):Bool:=(!hasB list s&&decide (s∈bm xs))||decide (s∈ms)
def kn (list:aS) (xs:List (Int×Unit)) (ms:List Int):List Int:=((ints 60).filter (gK list xs ms)).take 20
abbrev VN:Type:=aS×Int×Int×Int×Int×Int×(List (Int×Unit))×Int×Int×Int×Int×Int×(List (Int×Unit))×Int×Int×Int×Int×Int×(List (Int×Unit))×(List (Int×Unit))×Int×Unit
theorem Mg (t0 t1 t2 t3 t4:Int) (xs:List (Int×Unit)) (list:aS) (ms:List Int) (h:list.length≤1048576) (hx:xs.length≤1048576) (hm:nC list t2=some (aW ms,())) (hms:ms.length≤20) :
  ia t0 t1 t2 t3 t4 xs list=some (t0,t1,t2,t3,t4,aW (kn list xs ms),()):=by
 have SF:(aW ms).length≤1048576:=by rw [cf];omega
 obtain ⟨e,he,rfl⟩:=dw (round:=kC) (x:=(list,t0,t1,t2,t3,t4,xs,(0:Int),(0:Int),(0:Int),(0:Int),(0:Int),[],t0,t1,t2,t3,t4,[],aW ms,((0+1:Nat):Int),())) 60
  (fun k x=>x=(list,t0,t1,t2,t3,t4,xs,(0:Int),(0:Int),(0:Int),(0:Int),(0:Int),[],t0,t1,t2,t3,t4,aW ((ints k).filter (gK list xs ms)),aW ms,((k+1:Nat):Int),())∧((ints k).filter (gK list xs ms)).length≤20)
  (fun e=>e=.inl ((0:Int),(0:Int),(0:Int),(0:Int),(0:Int),[],t0,t1,t2,t3,t4,aW (kn list xs ms),())) (by
   rintro x ⟨rfl,g⟩
   refine ⟨_,?_,rfl⟩;simp only [kC,oQ,ai (show ¬((60+1:Nat):Int)≤(60:Int) by omega),cond_false];unfold kn;rw [List.take_of_length_le g]) (by
   rintro k x hk ⟨rfl,g⟩
   have hle:((k+1:Nat):Int)≤(60:Int):=by omega
   have hl:=cf ((ints k).filter (gK list xs ms))
   by_cases VM:((List.length (aW ((ints k).filter (gK list xs ms))):Nat):Int)<20
   case neg=>
    refine .inl ⟨_,?_,rfl⟩;simp only [kC,oQ,af hle,ai VM,cond_true,cond_false];have:kn list xs ms=(ints k).filter (gK list xs ms):=by
     unfold kn;obtain ⟨r,hr⟩:=Fb k (60-k);rw [show k+(60-k)=60 by omega] at hr;rw [hr,List.filter_append];exact List.take_left' (by omega)
    rw [this]
   have G8:(ints (k+1)).filter (gK list xs ms)=(ints k).filter (gK list xs ms)++(if gK list xs ms ((k+1:Nat):Int) then [((k+1:Nat):Int)] else []):=by
    rw [G7,List.filter_append];rw [List.filter_cons,List.filter_nil]
   have alk:=Ic ((k+1:Nat):Int) xs hx;have afi:=Ic ((k+1:Nat):Int) (aW ms) SF;rw [oZ] at afi;have hb:Nat.ble (((aW ((ints k).filter (gK list xs ms))).length+1)*8) lim=true:=aJ (by unfold lim;omega);have hsw:=aE (show k+1<4611686018427387904 by omega);simp only [kC,oQ,af hle,af VM,cond_true,s4 list _ h,Option.bind_some,xA,alk,afi,hb,hsw];have yes:gK list xs ms ((k+1:Nat):Int)=true→∃x':VN,x'=(list,t0,t1,t2,t3,t4,xs,(0:Int),(0:Int),(0:Int),(0:Int),(0:Int),[],t0,t1,t2,t3,t4,aW ((ints k).filter (gK list xs ms))++[(((k+1:Nat):Int),())],aW ms,((k+1+1:Nat):Int),())∧
     (x'=(list,t0,t1,t2,t3,t4,xs,(0:Int),(0:Int),(0:Int),(0:Int),(0:Int),[],t0,t1,t2,t3,t4,aW ((ints (k+1)).filter (gK list xs ms)),aW ms,((k+1+1:Nat):Int),())∧((ints (k+1)).filter (gK list xs ms)).length≤20):=by
    intro hp;refine ⟨_,rfl,?_,?_⟩
    ·rw [G8,hp,if_pos rfl,Mf];rfl
    ·rw [G8,hp,if_pos rfl,List.length_append];simp;omega
   have no:gK list xs ms ((k+1:Nat):Int)=false→∃x':VN,x'=(list,t0,t1,t2,t3,t4,xs,(0:Int),(0:Int),(0:Int),(0:Int),(0:Int),[],t0,t1,t2,t3,t4,aW ((ints k).filter (gK list xs ms)),aW ms,((k+1+1:Nat):Int),())∧
     (x'=(list,t0,t1,t2,t3,t4,xs,(0:Int),(0:Int),(0:Int),(0:Int),(0:Int),[],t0,t1,t2,t3,t4,aW ((ints (k+1)).filter (gK list xs ms)),aW ms,((k+1+1:Nat):Int),())∧((ints (k+1)).filter (gK list xs ms)).length≤20):=by
    intro hp;refine ⟨_,rfl,?_,?_⟩
    ·rw [G8,hp];simp
    ·rw [G8,hp];simp;omega
   have Ih:gK list xs ms ((k+1:Nat):Int)=((!(dS list ((k+1:Nat):Int)).isSome&&decide (((k+1:Nat):Int)∈bm xs))||decide (((k+1:Nat):Int)∈ms)):=rfl
   cases c1:(dS list ((k+1:Nat):Int)).isSome
   ·cases c2:decide (((k+1:Nat):Int)∈bm xs)
    ·cases c3:decide (((k+1:Nat):Int)∈ms)
     ·obtain ⟨x',g1,g2⟩:=no (by rw [Ih,c1,c2,c3];rfl);exact .inr ⟨x',by rw [g1];rfl,g2⟩
     ·obtain ⟨x',g1,g2⟩:=yes (by rw [Ih,c1,c2,c3];rfl);exact .inr ⟨x',by rw [g1];rfl,g2⟩
    ·obtain ⟨x',g1,g2⟩:=yes (by rw [Ih,c1,c2];rfl);exact .inr ⟨x',by rw [g1];rfl,g2⟩
   ·cases c3:decide (((k+1:Nat):Int)∈ms)
    ·obtain ⟨x',g1,g2⟩:=no (by rw [Ih,c1,c3];rfl);exact .inr ⟨x',by rw [g1];rfl,g2⟩
    ·obtain ⟨x',g1,g2⟩:=yes (by rw [Ih,c1,c3];rfl);exact .inr ⟨x',by rw [g1];rfl,g2⟩) ⟨rfl,by simp [ints]⟩
 unfold ia;rw [hm];simp only [Option.bind_some];rw [show (1:Int)=((0+1:Nat):Int) from rfl,he];rfl
def qu (list:aS) (s:Int):Bool := !hasB list s&&(decide (1≤s)&&decide (s≤60))
theorem Mh (t0 t1 t2 t3 t4:Int) (xs:List (Int×Unit)) (list:aS) (ms:List Int) (h:list.length≤1048576) (hx:xs.length≤1048576) (hm:nI list t2=some (aW ms,())) (hms:ms.length≤20) (hmp:∀s∈ms,1≤s∧s≤60∧hasB list s=false) :
  vA t0 t1 t2 t3 t4 xs list=some (t0,t1,t2,t3,t4,aW (kn list xs ms),()):=by
 have Nl:=bD (round:=kD) (e:=.inl ((0:Int),(0:Int),(0:Int),(0:Int),(0:Int),[],t0,t1,t2,t3,t4,xs,aW (ms++(bm xs).filter (qu list)),())) xs.length
  (fun k=>(list,(0:Int),(0:Int),(0:Int),(0:Int),(0:Int),[],t0,t1,t2,t3,t4,xs,aW (ms++(bm (xs.take k)).filter (qu list)),xs,((List.length xs:Nat):Int),((k:Nat):Int),())) (by
   simp only [kD,tl,aC,cond_false,List.take_length]) (fun k hk=>by
   have hfl:((bm (xs.take k)).filter (qu list)).length≤1048576:=by
    have h1:=List.length_filter_le (qu list) (bm (xs.take k));have h2:=jc (xs.take k);rw [List.length_take] at h2;omega
   have hl:=cf (ms++(bm (xs.take k)).filter (qu list));rw [List.length_append] at hl;have G8:(bm (xs.take (k+1))).filter (qu list)=(bm (xs.take k)).filter (qu list)++(if qu list xs[k].1 then [xs[k].1] else []):=by
    rw [List.take_succ_eq_append_getElem hk];unfold bm;rw [List.map_append,List.filter_append,List.map_cons,List.map_nil,List.filter_cons,List.filter_nil]
   have Ih:qu list xs[k].1=(!(dS list xs[k].1).isSome&&(decide (1≤xs[k].1)&&decide (xs[k].1≤60))):=rfl;simp only [kD,tl,ax hk,ak,cond_true,az,List.getElem?_eq_getElem hk,Option.bind_some,s5 list _ h,xA,sn,aJ (show ((aW (ms++(bm (xs.take k)).filter (qu list))).length+1)*8≤lim by unfold lim;omega),aE (show k<4611686018427387904 by omega),G8]
   cases c1:(dS list xs[k].1).isSome
   ·cases c2:(decide (1≤xs[k].1)&&decide (xs[k].1≤60))
    ·rw [Ih,c1,c2];simp
    ·rw [Ih,c1,c2];simp [aW]
   ·rw [Ih,c1];simp)
 have Nl:aG kD (list,(0:Int),(0:Int),(0:Int),(0:Int),(0:Int),[],t0,t1,t2,t3,t4,xs,aW (ms++(bm (xs.take 0)).filter (qu list)),xs,((List.length xs:Nat):Int),(0:Int),())=_:=Nl;rw [show ms++(bm (xs.take 0)).filter (qu list)=ms by simp [bm]] at Nl;have c2:cV t0 t1 t2 t3 t4 xs=some (t0,t1,t2,t3,t4,xs,()):=by
  unfold cV;rw [oF xs hx];rfl
 have hwl:(ms++(bm xs).filter (qu list)).length≤1048576+20:=by
  rw [List.length_append];have h1:=List.length_filter_le (qu list) (bm xs);have h2:=jc xs;omega
 generalize hW:ms++(bm xs).filter (qu list)=W at *;have afj:EE (aW W)=some (aW (W.mergeSort fun x y=>decide (x≤y)),()):=by
  unfold EE;rw [aJ (show (aW W).length≤lim by rw [cf];unfold lim;omega),oZ];rfl
 have VO:nu (aW (W.mergeSort fun x y=>decide (x≤y)))=some (aW (Lib.compact (W.mergeSort fun x y=>decide (x≤y))),()):=by
  unfold nu;rw [aJ (show (aW (W.mergeSort fun x y=>decide (x≤y))).length≤lim by rw [cf,List.length_mergeSort];unfold lim;omega),oZ];rfl
 have hC:Lib.compact (W.mergeSort fun x y=>decide (x≤y))=(ints 60).filter (gK list xs ms):=by
  refine E9 _ _ (Fa _ (Uy W)) ((C7 60).filter _) fun z => ?_
  rw [Kf,Sj,←hW,List.mem_append,List.mem_filter,List.mem_filter,Sk];unfold qu gK;simp only [Bool.and_eq_true,Bool.or_eq_true,decide_eq_true_eq,Bool.not_eq_true']
  constructor
  ·rintro (h1 | ⟨h1,h2,h3,h4⟩)
   ·exact ⟨⟨(hmp z h1).1,(hmp z h1).2.1⟩,.inr h1⟩
   ·exact ⟨⟨h3,h4⟩,.inl ⟨h2,h1⟩⟩
  ·rintro ⟨⟨h3,h4⟩,⟨h2,h1⟩ | h1⟩
   ·exact .inr ⟨h1,h2,h3,h4⟩
   ·exact .inl h1
 rw [hC] at VO;have hCl:((ints 60).filter (gK list xs ms)).length≤60:=Nat.le_trans (List.length_filter_le _ _) (by simp [ints]);have alm:(if (20:Int)<((List.length (aW ((ints 60).filter (gK list xs ms))):Nat):Int) then (20:Int) else ((List.length (aW ((ints 60).filter (gK list xs ms))):Nat):Int))=((min 20 ((ints 60).filter (gK list xs ms)).length:Nat):Int):=by
  rw [cf]
  split<;>omega
 have afk:List.take (min 20 ((ints 60).filter (gK list xs ms)).length) (aW ((ints 60).filter (gK list xs ms)))=aW (kn list xs ms):=by
  unfold kn;rw [Kg]
  by_cases VM:20≤((ints 60).filter (gK list xs ms)).length
  ·rw [Nat.min_eq_left VM]
  ·rw [Nat.min_eq_right (by omega),List.take_of_length_le (by rw [cf];omega),List.take_of_length_le (by rw [cf];omega)]
 have l9:=oF (aW (kn list xs ms)) (by rw [cf];unfold kn;rw [List.length_take];omega);unfold vA;rw [c2,hm];simp only [Option.bind_some];rw [Nl];simp only [dZ,afj,VO,Option.bind_some,alm,ak,cond_true,az,List.drop_zero,afk,l9,af (show ((min 20 ((ints 60).filter (gK list xs ms)).length:Nat):Int)≤((List.length (aW ((ints 60).filter (gK list xs ms))):Nat):Int) by rw [cf];omega)]
end Go.TM
set_option linter.unusedSimpArgs false
set_option linter.unusedVariables false
namespace Go.TM
open Go
theorem Nn {xs:aS} {s:Int}:hasB xs s=true↔∃r∈xs,r.1=s:=by
 unfold hasB dS;rw [List.find?_isSome];simp only [decide_eq_true_eq]
theorem Cr {r m:dn}:{xs:aS}→r∈xs→r∈m8 xs m
 | [],h=>by cases h
 |x::xs,h=>by
  unfold m8
  split
  ·rcases List.mem_cons.1 h with rfl | h
   ·exact List.mem_cons_self
   ·exact List.mem_cons_of_mem _ (Cr h)
  ·split
   ·exact h
   ·exact List.mem_cons_of_mem _ h
theorem Kh {xs ys:aS} (hx:xs.length≤1048576) (hy:ys.length≤1048576) (h:∀r∈xs,∃q∈ys,q.1=r.1):dB xs≤dB ys:=by
 obtain ⟨_,a1,_⟩:=(zT xs hx).2.2;obtain ⟨_,_,b2⟩:=(zT ys hy).2.2
 by_cases bQ:dB ys<dB xs
 ·have h1:=a1 _ bQ;obtain ⟨r,hr,e⟩:=Nn.1 h1;obtain ⟨q,hq,e2⟩:=h r hr;have:hasB ys ((dB ys+1:Nat):Int)=true:=Nn.2 ⟨q,hq,e2.trans e⟩;unfold hasB at this;rw [b2] at this
  cases this
 ·omega
def bE (xs:aS) (fs:aS):aS:=fs.foldl m8 xs
theorem qQ:(fs:aS)→{xs:aS}→iq xs xs.length→(∀f∈fs,mg f)→iq (bE xs fs) (bE xs fs).length
 | [],_,h,_=>h
 |f::fs,_,h,hf=>qQ fs (E7 h (hf f List.mem_cons_self)) fun g hg=>hf g (List.mem_cons_of_mem _ hg)
theorem C8 {r:dn}:(fs:aS)→{xs:aS}→r∈xs→r∈bE xs fs
 | [],_,h=>h
 |_::fs,_,h=>C8 fs (Cr h)
theorem Fc {r:dn}:(fs:aS)→{xs:aS}→r∈bE xs fs→r∈fs∨r∈xs
 | [],_,h=>.inr h
 |f::fs,xs,h=>by
  rcases Fc fs h with h | h
  ·exact .inl (List.mem_cons_of_mem _ h)
  ·rcases xz h with rfl | h
   ·exact .inl List.mem_cons_self
   ·exact .inr h
theorem Mi {c2 d:Int} {lv:dF} {tx:List (ByteArray×Unit)} {k j:Nat} (hc:0≤c2∧c2+((k:Nat):Int)≤60) (hd:1≤d∧d≤5) (hk:k≤tx.length) (hs:jo tx tx.length) (hj:j<k):mg (xX c2 d lv tx j):=by
 have h1:j<tx.length:=by omega
 have hgt:(tx.getD j (ByteArray.empty,())).1=tx[j].1:=by rw [List.getD_eq_getElem?_getD,List.getElem?_eq_getElem h1,Option.getD_some]
 refine ⟨⟨?_,?_⟩,hd,?_,?_⟩
 ·show 1≤c2+((j+1:Nat):Int);omega
 ·show c2+((j+1:Nat):Int)≤60;omega
 ·show 1≤(bif decide (j<lv.length)&&decide ((lv.getD j ((0:Int),())).1=2) then (2:Int) else 1)∧(bif decide (j<lv.length)&&decide ((lv.getD j ((0:Int),())).1=2) then (2:Int) else 1)≤2
  cases decide (j<lv.length)&&decide ((lv.getD j ((0:Int),())).1=2)<;>decide
 ·show ByteArray.size (tx.getD j (ByteArray.empty,())).1≤60;rw [hgt];exact hs j h1 h1
theorem xB {c2 d:Int} {lv:dF} {tx:List (ByteArray×Unit)} {k:Nat} (hc:0≤c2∧c2+((k:Nat):Int)≤60) (hd:1≤d∧d≤5) (hk:k≤tx.length) (hs:jo tx tx.length):∀f∈dL c2 d lv tx k,mg f:=by
 intro f hf;unfold dL at hf;obtain ⟨j,hj,rfl⟩:=List.mem_map.1 hf;exact Mi hc hd hk hs (List.mem_range.1 hj)
def s7 (t:kY) (xs:aS):aS:=xs.filter fun r=>decide (r.1∈bm t.q.1)
theorem Sm (t:kY) (xs:aS) (h:xs.length≤1048576) (hw:t.q.1.length≤1048576):xO t.1 t.2.1 t.2.2.1 t.2.2.2.1 t.2.2.2.2.1 t.q.1 xs=some (s7 t xs,())∧xT t.1 t.2.1 t.2.2.1 t.2.2.2.1 t.2.2.2.2.1 t.q.1 xs=some (s7 t xs,()):=by
 have hlen:∀k,((xs.take k).filter fun r=>decide (r.1∈bm t.q.1)).length≤k:=fun k=>Nat.le_trans (List.length_filter_le _ _) (List.length_take_le _ _)
 constructor
 ·have hl:=bD (round:=lJ) (e:=.inl (s7 t xs,())) xs.length (fun k=>(xs,t.1,t.2.1,t.2.2.1,t.2.2.2.1,t.2.2.2.2.1,t.q.1,(xs.take k).filter (fun r=>decide (r.1∈bm t.q.1)),((k:Nat):Int),())) (by
   simp only [lJ,u7,aC,cond_false,List.take_length,s7]) (fun k hk=>by
   have nk:=hlen k;simp only [lJ,u7,ax hk,ak,cond_true,az,List.getElem?_eq_getElem hk,Option.bind_some,Ic _ _ hw,aJ (show (((xs.take k).filter fun r=>decide (r.1∈bm t.q.1)).length+1)*40≤lim by unfold lim;omega),aE (show k<4611686018427387904 by omega)];rw [List.take_succ_eq_append_getElem hk,List.filter_append]
   cases hp:decide (xs[k].1∈bm t.q.1)
   ·rw [List.filter_cons_of_neg (by rw [hp];simp)];simp
   ·rw [List.filter_cons_of_pos (by rw [hp])];rfl)
  have hl:aG lJ (xs,t.1,t.2.1,t.2.2.1,t.2.2.2.1,t.2.2.2.2.1,t.q.1,[],(0:Int),())=_:=hl;unfold xO;rw [hl];rfl
 ·have hl:=bD (round:=lL) (e:=.inl (s7 t xs,())) xs.length (fun k=>(t.1,t.2.1,t.2.2.1,t.2.2.2.1,t.2.2.2.2.1,t.q.1,(xs.take k).filter (fun r=>decide (r.1∈bm t.q.1)),xs,((List.length xs:Nat):Int),((k:Nat):Int),())) (by
   simp only [lL,vz,aC,cond_false,List.take_length,s7]) (fun k hk=>by
   have nk:=hlen k;simp only [lL,vz,ax hk,ak,cond_true,az,List.getElem?_eq_getElem hk,Option.bind_some,Ie _ _ hw,aJ (show (((xs.take k).filter fun r=>decide (r.1∈bm t.q.1)).length+1)*40≤lim by unfold lim;omega),aE (show k<4611686018427387904 by omega)];rw [List.take_succ_eq_append_getElem hk,List.filter_append]
   cases hp:decide (xs[k].1∈bm t.q.1)
   ·rw [List.filter_cons_of_neg (by rw [hp];simp)];simp
   ·rw [List.filter_cons_of_pos (by rw [hp])];rfl)
  have hl:aG lL (t.1,t.2.1,t.2.2.1,t.2.2.2.1,t.2.2.2.2.1,t.q.1,[],xs,((List.length xs:Nat):Int),(0:Int),())=_:=hl;unfold xT;rw [hl];rfl
theorem Fe {t:kY} {xs:aS} {r:dn} (h:r∈s7 t xs):r∈xs:=(List.mem_filter.1 h).1
theorem Ff (t:kY) (xs:aS):(s7 t xs).length≤xs.length:=List.length_filter_le _ _
end Go.TM
