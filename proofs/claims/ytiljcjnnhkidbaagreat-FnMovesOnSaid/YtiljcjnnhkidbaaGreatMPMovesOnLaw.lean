/- A daemon that moves on with another one: the law. -/
import Derived.Test.YtiljcjnnhkidbaaGreatMPMovesOnL
set_option linter.unusedSimpArgs false
set_option linter.unusedVariables false
namespace Go.TM
open Go
theorem Q4 (code:List (Int×Unit)) (hP:∀(d:bZ) (t:lT) (b:dS) (x:dY),fB code=some (d.1,d.2.1,d.2.2.1,d.2.2.2.1,d.2.2.2.2.1,d.2.2.2.2.2.1,d.2.2.2.2.2.2.1,d.2.2.2.2.2.2.2.1,d.2.2.2.2.2.2.2.2.1,d.2.2.2.2.2.2.2.2.2.1,d.2.2.2.2.2.2.2.2.2.2.1,d.2.2.2.2.2.2.2.2.2.2.2.1,d.2.2.2.2.2.2.2.2.2.2.2.2.1,d.2.2.2.2.2.2.2.2.2.2.2.2.2.1,d.2.2.2.2.2.2.2.2.2.2.2.2.2.2.1,d.2.2.2.2.2.2.2.2.2.2.2.2.2.2.2.1,d.2.2.2.2.2.2.2.2.2.2.2.2.2.2.2.2.1,d.2.2.2.2.2.2.2.2.2.2.2.2.2.2.2.2.2.1,d.2.2.2.2.2.2.2.2.2.2.2.2.2.2.2.2.2.2.1,d.2.2.2.2.2.2.2.2.2.2.2.2.2.2.2.2.2.2.2.1,d.2.2.2.2.2.2.2.2.2.2.2.2.2.2.2.2.2.2.2.2.1,d.2.2.2.2.2.2.2.2.2.2.2.2.2.2.2.2.2.2.2.2.2.1,d.2.2.2.2.2.2.2.2.2.2.2.2.2.2.2.2.2.2.2.2.2.2.1,d.2.2.2.2.2.2.2.2.2.2.2.2.2.2.2.2.2.2.2.2.2.2.2.1,t.1,t.2.1,t.2.2.1,t.2.2.2.1,t.2.2.2.2.1,t.2.2.2.2.2.1,b.1,b.2.1,b.2.2.1,b.2.2.2.1,x.1,x.2.1,x.2.2.1,x.2.2.2.1,())→d.1<IntKind.i64.wrap (Int.tmod d.1 5+1)):jS code=some (true,()):=by
 unfold jS AK;delta az aw aP
 by_cases hb:(1048576:Int)<((List.length code:Nat):Int)
 ·rw [ak hb];rfl
 rw [aq hb];have Ax:code.length≤1048576:=by omega
 obtain ⟨d,t,b,x,e1,h,ht,hbl⟩:=xw code Ax;obtain ⟨o,eo,ho,lO⟩:=O4 d.1 h.q.id.1 h.q.id.2;have XW:=h.q.xY;have hwm:IntKind.i64.wrap (d.2.2.2.2.2.2.2.2.2.2.2.2.2.2.2.2.2.2.1+1)=d.2.2.2.2.2.2.2.2.2.2.2.2.2.2.2.2.2.2.1+1:=cD (by omega) (by omega);simp only [cond_false,e1,Option.bind_some,eo,hwm];generalize hc:d.2.2.2.2.2.2.2.2.2.2.2.2.2.2.2.2.2.2.1+1=c;have core:∀ms:dC,ms.length=2→(d.1,())∈ms→(∀y∈ms,y.1=d.1∨y.1=o)→((1≤c∧c≤9)→js c ms)→
   (cR d c ms).2.2=false∧(d.2.1=true∨9≤d.2.2.2.2.2.2.2.2.2.2.2.2.2.2.2.2.2.2.1)∨(cR d c ms=(bG d c ms,fU d ms (cC d c),true)∧js c ms∧d.2.1=false∧d.2.2.2.2.2.2.2.2.2.2.2.2.2.2.2.2.2.2.1<c):=by
  intro ms h2 hm lu hr
  cases hd:d.2.1
  ·by_cases h9:9≤d.2.2.2.2.2.2.2.2.2.2.2.2.2.2.2.2.2.2.1
   ·refine .inl ⟨?_,.inr h9⟩;have hl:ms.length≤1048576:=by omega
    have hrb:qS c ms=false:=by
     cases hrr:qS c ms
     ·rfl
     ·have:=((ou c ms hl).2.2.1 hrr).1.2;omega
    unfold cR x8;rw [hrb]
    cases jd d<;>cases d.2.1<;>rfl
   ·have hR:=hr ⟨by omega,by omega⟩;refine .inr ⟨?_,hR,rfl,by omega⟩;unfold cR;rw [O1 h (by omega) hR hm hd (by omega),(BP h hR hm hd (by omega) h2).1];rfl
  ·refine .inl ⟨?_,.inl rfl⟩;unfold cR x8;rw [hd]
   cases jd d<;>rfl
 have tail:∀ms:dC,ms.length=2→(d.1,())∈ms→(∀y∈ms,y.1=d.1∨y.1=o)→js c ms→d.2.1=false→d.2.2.2.2.2.2.2.2.2.2.2.2.2.2.2.2.2.2.1<c→kN 90 (bG d c ms)∧(fU d ms (cC d c)).length=1∧(cR (bG d c ms) c ms).2.2=false∧bz (bG d c ms) (eC o c)=(dU (dz (bG d c ms) ([cC d c]++[eC o c])),true):=by
  intro ms h2 hm lu hR hd dM;obtain ⟨g,_,_⟩:=Bs h hR hm hd dM;refine ⟨g,(BP h hR hm hd dM h2).2,?_,I3 h (by omega) hR hm hd dM ho lO lu⟩;unfold cR x8;have e:decide (c≤(bG d c ms).2.2.2.2.2.2.2.2.2.2.2.2.2.2.2.2.2.2.1)=true:=decide_eq_true (Int.le_refl c);rw [e]
  cases jd (bG d c ms)<;>cases (bG d c ms).2.1<;>cases qS c ms<;>cases decide (((bG d c ms).1,())∈ms)<;>rfl
 have dM:d.1<o:=by
  have:=hP d t b x e1;rw [eo] at this;exact this
 ·rw [ak dM];have hm:(d.1,())∈[(d.1,()),(o,())]:=by simp
  have lu:∀y∈[(d.1,()),(o,())],y.1=d.1∨y.1=o:=by
   intro y hy;simp only [List.mem_cons,List.not_mem_nil,or_false] at hy;rcases hy with rfl | rfl
   ·exact .inl rfl
   ·exact .inr rfl
  have hC:=core _ rfl hm lu fun hc'=>Lo hc' h.q.id.1 dM ho.2
  have iM:=Er h (by omega) c [(d.1,()),(o,())] (show 2≤1048576 by decide);have sM:=IT h (by omega) c [(d.1,()),(o,())] (show 2≤1048576 by decide);simp only [cond_true];rw [iM];simp only [Option.bind_some];rw [sM];simp only [Option.bind_some];rcases hC with ⟨hf,hq⟩ | ⟨hv,hR,hd,VT⟩
  ·rw [hf];simp only [Bool.not_false,Bool.not_true,BEq.rfl,cond_true,cond_false];rcases hq with hq | hq
   ·rw [hq];rfl
   ·rw [ak hq];cases d.2.1<;>rfl
  ·obtain ⟨g,tl,mf,tk⟩:=tail _ rfl hm lu hR hd VT;have gs:=g.small (by omega);have hcz:¬c=0:=by omega
   have out:=O3 g hcz;have iM2:=Er g (by omega) c [(d.1,()),(o,())] (show 2≤1048576 by decide);obtain ⟨r,said,nx,bb,_,eT,_,_,_,gt⟩:=FB g (by omega) t (by omega);have hbb:bb=false:=by
    cases bb
    ·rfl
    ·have:=(gt rfl).1;rw [out] at this;cases this
   subst hbb;have eI:=(xt (bG d c [(d.1,()),(o,())]) (bG d c [(d.1,()),(o,())]).2.2.2.2.2.2.2.2.2.2.2.2.2.2.2.2.2.2.2.1 x gs).2;have hI:mV (bG d c [(d.1,()),(o,())]) (bG d c [(d.1,()),(o,())]).2.2.2.2.2.2.2.2.2.2.2.2.2.2.2.2.2.2.2.1 x=(bG d c [(d.1,()),(o,())]):=by unfold mV;rw [out];rfl
   rw [hI] at eI;have eF:=O5 (bG d c [(d.1,()),(o,())]) hcz;have eD:=(j6 (bG d c [(d.1,()),(o,())]) gs).2.1;rw [(j6 (bG d c [(d.1,()),(o,())]) gs).2.2.2 g.q] at eD;rw [hv];simp only [Bool.not_true,BEq.rfl,cond_false];rw [iM2];simp only [Option.bind_some];rw [eT];simp only [Option.bind_some];rw [eI];simp only [Option.bind_some];rw [eF];have h0:0<(fU d [(d.1,()),(o,())] (cC d c)).length:=by omega
   have UM:(fU d [(d.1,()),(o,())] (cC d c))[0]=cC d c:=FF (List.getElem_mem h0);simp only [Option.bind_some,mf,cond_false,decide_true,Bool.not_true,ak (show ((List.length (fU d [(d.1,()),(o,())] (cC d c)):Nat):Int)=1 by omega),fl h0,cond_true,List.getElem?_eq_getElem h0,UM,ak (show (cC d c).2.2.1=d.2.2.2.2.2.2.2.2.2.2.2.2.2.2.2.2.2.2.2.1 from rfl)];rw [eD];simp only [Option.bind_some,Bool.not_true,cond_false];have eB:=(zJ (bG d c [(d.1,()),(o,())]) (eC o c) gs (Nat.zero_le _)).2;rw [tk] at eB;have eB:jb (bG d c [(d.1,()),(o,())]).1 (bG d c [(d.1,()),(o,())]).2.1 (bG d c [(d.1,()),(o,())]).2.2.1 (bG d c [(d.1,()),(o,())]).2.2.2.1 (bG d c [(d.1,()),(o,())]).2.2.2.2.1 (bG d c [(d.1,()),(o,())]).2.2.2.2.2.1 (bG d c [(d.1,()),(o,())]).2.2.2.2.2.2.1 (bG d c [(d.1,()),(o,())]).2.2.2.2.2.2.2.1 (bG d c [(d.1,()),(o,())]).2.2.2.2.2.2.2.2.1 (bG d c [(d.1,()),(o,())]).2.2.2.2.2.2.2.2.2.1 (bG d c [(d.1,()),(o,())]).2.2.2.2.2.2.2.2.2.2.1 (bG d c [(d.1,()),(o,())]).2.2.2.2.2.2.2.2.2.2.2.1 (bG d c [(d.1,()),(o,())]).2.2.2.2.2.2.2.2.2.2.2.2.1 (bG d c [(d.1,()),(o,())]).2.2.2.2.2.2.2.2.2.2.2.2.2.1 (bG d c [(d.1,()),(o,())]).2.2.2.2.2.2.2.2.2.2.2.2.2.2.1 (bG d c [(d.1,()),(o,())]).2.2.2.2.2.2.2.2.2.2.2.2.2.2.2.1 (bG d c [(d.1,()),(o,())]).2.2.2.2.2.2.2.2.2.2.2.2.2.2.2.2.1 (bG d c [(d.1,()),(o,())]).2.2.2.2.2.2.2.2.2.2.2.2.2.2.2.2.2.1 (bG d c [(d.1,()),(o,())]).2.2.2.2.2.2.2.2.2.2.2.2.2.2.2.2.2.2.1 (bG d c [(d.1,()),(o,())]).2.2.2.2.2.2.2.2.2.2.2.2.2.2.2.2.2.2.2.1 (bG d c [(d.1,()),(o,())]).2.2.2.2.2.2.2.2.2.2.2.2.2.2.2.2.2.2.2.2.1 (bG d c [(d.1,()),(o,())]).2.2.2.2.2.2.2.2.2.2.2.2.2.2.2.2.2.2.2.2.2.1 (bG d c [(d.1,()),(o,())]).2.2.2.2.2.2.2.2.2.2.2.2.2.2.2.2.2.2.2.2.2.2.1 (bG d c [(d.1,()),(o,())]).2.2.2.2.2.2.2.2.2.2.2.2.2.2.2.2.2.2.2.2.2.2.2.1 o c 0 []=_:=eB;rw [eB];simp only [Option.bind_some,cond_true];have hg2:=FD g (by omega) (b:=eC o c) (Nat.zero_le _) (by rw [tk]);rw [tk] at hg2;have gm:=hg2.1;generalize hM:(dU (dz (bG d c [(d.1,()),(o,())]) ([cC d c]++[eC o c])))=m at *;have m19:m.2.2.2.2.2.2.2.2.2.2.2.2.2.2.2.2.2.2.2.1=c:=by rw [←hM];rfl
   have m20:m.2.2.2.2.2.2.2.2.2.2.2.2.2.2.2.2.2.2.2.2.1=0:=by rw [←hM];rfl
   obtain ⟨L,hL⟩:∃L:List tK,m.2.2.2.2.2.2.2.2.2.2.2.2.2.2.2.2.2.2.2.2.2.2.2.1=L++[(3,c,[(d.1,()),(o,())],0,0,0,ByteArray.empty,[(d.1,()),(o,())],())]:=by rw [←hM];exact ⟨_,rfl⟩
   have eD2:=(j6 m (gm.small (by omega))).2.1;rw [(j6 m (gm.small (by omega))).2.2.2 gm.q] at eD2;have Uj:=gm.log;rw [hL,List.length_append,List.length_singleton] at Uj;have hw:IntKind.i64.wrap (((L.length+1:Nat):Int)-1)=((L.length:Nat):Int):=by rw [cD]<;>omega
   have Gv:(L++[((3,c,[(d.1,()),(o,())],0,0,0,ByteArray.empty,[(d.1,()),(o,())],()):tK)])[L.length]?=some (3,c,[(d.1,()),(o,())],0,0,0,ByteArray.empty,[(d.1,()),(o,())],()):=by
    rw [List.getElem?_append_right (Nat.le_refl _),Nat.sub_self];rfl
   have ar9:L.length<(L++[((3,c,[(d.1,()),(o,())],0,0,0,ByteArray.empty,[(d.1,()),(o,())],()):tK)]).length:=by rw [List.length_append,List.length_singleton];omega
   rw [m19,m20,hL] at *;simp only [decide_true,cond_true,List.length_append,List.length_singleton,hw,ax,aF] at *;have agB:L.length<L.length+1:=by omega
   simp only [fl agB,cond_true,Gv,Option.bind_some,ak (rfl:(3:Int)=3)];rw [eD2];rfl
theorem ML (code:List (Int×Unit)) (hP:∀(d:bZ) (t:lT) (b:dS) (x:dY),fB code=some (d.1,d.2.1,d.2.2.1,d.2.2.2.1,d.2.2.2.2.1,d.2.2.2.2.2.1,d.2.2.2.2.2.2.1,d.2.2.2.2.2.2.2.1,d.2.2.2.2.2.2.2.2.1,d.2.2.2.2.2.2.2.2.2.1,d.2.2.2.2.2.2.2.2.2.2.1,d.2.2.2.2.2.2.2.2.2.2.2.1,d.2.2.2.2.2.2.2.2.2.2.2.2.1,d.2.2.2.2.2.2.2.2.2.2.2.2.2.1,d.2.2.2.2.2.2.2.2.2.2.2.2.2.2.1,d.2.2.2.2.2.2.2.2.2.2.2.2.2.2.2.1,d.2.2.2.2.2.2.2.2.2.2.2.2.2.2.2.2.1,d.2.2.2.2.2.2.2.2.2.2.2.2.2.2.2.2.2.1,d.2.2.2.2.2.2.2.2.2.2.2.2.2.2.2.2.2.2.1,d.2.2.2.2.2.2.2.2.2.2.2.2.2.2.2.2.2.2.2.1,d.2.2.2.2.2.2.2.2.2.2.2.2.2.2.2.2.2.2.2.2.1,d.2.2.2.2.2.2.2.2.2.2.2.2.2.2.2.2.2.2.2.2.2.1,d.2.2.2.2.2.2.2.2.2.2.2.2.2.2.2.2.2.2.2.2.2.2.1,d.2.2.2.2.2.2.2.2.2.2.2.2.2.2.2.2.2.2.2.2.2.2.2.1,t.1,t.2.1,t.2.2.1,t.2.2.2.1,t.2.2.2.2.1,t.2.2.2.2.2.1,b.1,b.2.1,b.2.2.1,b.2.2.2.1,x.1,x.2.1,x.2.2.1,x.2.2.2.1,())→¬d.1<IntKind.i64.wrap (Int.tmod d.1 5+1)):jS code=some (true,()):=by
 unfold jS AK;delta az aw aP
 by_cases hb:(1048576:Int)<((List.length code:Nat):Int)
 ·rw [ak hb];rfl
 rw [aq hb];have Ax:code.length≤1048576:=by omega
 obtain ⟨d,t,b,x,e1,h,ht,hbl⟩:=xw code Ax;obtain ⟨o,eo,ho,lO⟩:=O4 d.1 h.q.id.1 h.q.id.2;have XW:=h.q.xY;have hwm:IntKind.i64.wrap (d.2.2.2.2.2.2.2.2.2.2.2.2.2.2.2.2.2.2.1+1)=d.2.2.2.2.2.2.2.2.2.2.2.2.2.2.2.2.2.2.1+1:=cD (by omega) (by omega);simp only [cond_false,e1,Option.bind_some,eo,hwm];generalize hc:d.2.2.2.2.2.2.2.2.2.2.2.2.2.2.2.2.2.2.1+1=c;have core:∀ms:dC,ms.length=2→(d.1,())∈ms→(∀y∈ms,y.1=d.1∨y.1=o)→((1≤c∧c≤9)→js c ms)→
   (cR d c ms).2.2=false∧(d.2.1=true∨9≤d.2.2.2.2.2.2.2.2.2.2.2.2.2.2.2.2.2.2.1)∨(cR d c ms=(bG d c ms,fU d ms (cC d c),true)∧js c ms∧d.2.1=false∧d.2.2.2.2.2.2.2.2.2.2.2.2.2.2.2.2.2.2.1<c):=by
  intro ms h2 hm lu hr
  cases hd:d.2.1
  ·by_cases h9:9≤d.2.2.2.2.2.2.2.2.2.2.2.2.2.2.2.2.2.2.1
   ·refine .inl ⟨?_,.inr h9⟩;have hl:ms.length≤1048576:=by omega
    have hrb:qS c ms=false:=by
     cases hrr:qS c ms
     ·rfl
     ·have:=((ou c ms hl).2.2.1 hrr).1.2;omega
    unfold cR x8;rw [hrb]
    cases jd d<;>cases d.2.1<;>rfl
   ·have hR:=hr ⟨by omega,by omega⟩;refine .inr ⟨?_,hR,rfl,by omega⟩;unfold cR;rw [O1 h (by omega) hR hm hd (by omega),(BP h hR hm hd (by omega) h2).1];rfl
  ·refine .inl ⟨?_,.inl rfl⟩;unfold cR x8;rw [hd]
   cases jd d<;>rfl
 have tail:∀ms:dC,ms.length=2→(d.1,())∈ms→(∀y∈ms,y.1=d.1∨y.1=o)→js c ms→d.2.1=false→d.2.2.2.2.2.2.2.2.2.2.2.2.2.2.2.2.2.2.1<c→kN 90 (bG d c ms)∧(fU d ms (cC d c)).length=1∧(cR (bG d c ms) c ms).2.2=false∧bz (bG d c ms) (eC o c)=(dU (dz (bG d c ms) ([cC d c]++[eC o c])),true):=by
  intro ms h2 hm lu hR hd dM;obtain ⟨g,_,_⟩:=Bs h hR hm hd dM;refine ⟨g,(BP h hR hm hd dM h2).2,?_,I3 h (by omega) hR hm hd dM ho lO lu⟩;unfold cR x8;have e:decide (c≤(bG d c ms).2.2.2.2.2.2.2.2.2.2.2.2.2.2.2.2.2.2.1)=true:=decide_eq_true (Int.le_refl c);rw [e]
  cases jd (bG d c ms)<;>cases (bG d c ms).2.1<;>cases qS c ms<;>cases decide (((bG d c ms).1,())∈ms)<;>rfl
 have dM:¬d.1<o:=by
  have:=hP d t b x e1;rw [eo] at this;exact this
 ·rw [aq dM];have hm:(d.1,())∈[(o,()),(d.1,())]:=by simp
  have lu:∀y∈[(o,()),(d.1,())],y.1=d.1∨y.1=o:=by
   intro y hy;simp only [List.mem_cons,List.not_mem_nil,or_false] at hy;rcases hy with rfl | rfl
   ·exact .inr rfl
   ·exact .inl rfl
  have hC:=core _ rfl hm lu fun hc'=>Lo hc' ho.1 (show o<d.1 by omega) h.q.id.2
  have iM:=Er h (by omega) c [(o,()),(d.1,())] (show 2≤1048576 by decide);have sM:=IT h (by omega) c [(o,()),(d.1,())] (show 2≤1048576 by decide);simp only [cond_false];rw [iM];simp only [Option.bind_some];rw [sM];simp only [Option.bind_some];rcases hC with ⟨hf,hq⟩ | ⟨hv,hR,hd,VT⟩
  ·rw [hf];simp only [Bool.not_false,Bool.not_true,BEq.rfl,cond_true,cond_false];rcases hq with hq | hq
   ·rw [hq];rfl
   ·rw [ak hq];cases d.2.1<;>rfl
  ·obtain ⟨g,tl,mf,tk⟩:=tail _ rfl hm lu hR hd VT;have gs:=g.small (by omega);have hcz:¬c=0:=by omega
   have out:=O3 g hcz;have iM2:=Er g (by omega) c [(o,()),(d.1,())] (show 2≤1048576 by decide);obtain ⟨r,said,nx,bb,_,eT,_,_,_,gt⟩:=FB g (by omega) t (by omega);have hbb:bb=false:=by
    cases bb
    ·rfl
    ·have:=(gt rfl).1;rw [out] at this;cases this
   subst hbb;have eI:=(xt (bG d c [(o,()),(d.1,())]) (bG d c [(o,()),(d.1,())]).2.2.2.2.2.2.2.2.2.2.2.2.2.2.2.2.2.2.2.1 x gs).2;have hI:mV (bG d c [(o,()),(d.1,())]) (bG d c [(o,()),(d.1,())]).2.2.2.2.2.2.2.2.2.2.2.2.2.2.2.2.2.2.2.1 x=(bG d c [(o,()),(d.1,())]):=by unfold mV;rw [out];rfl
   rw [hI] at eI;have eF:=O5 (bG d c [(o,()),(d.1,())]) hcz;have eD:=(j6 (bG d c [(o,()),(d.1,())]) gs).2.1;rw [(j6 (bG d c [(o,()),(d.1,())]) gs).2.2.2 g.q] at eD;rw [hv];simp only [Bool.not_true,BEq.rfl,cond_false];rw [iM2];simp only [Option.bind_some];rw [eT];simp only [Option.bind_some];rw [eI];simp only [Option.bind_some];rw [eF];have h0:0<(fU d [(o,()),(d.1,())] (cC d c)).length:=by omega
   have UM:(fU d [(o,()),(d.1,())] (cC d c))[0]=cC d c:=FF (List.getElem_mem h0);simp only [Option.bind_some,mf,cond_false,decide_true,Bool.not_true,ak (show ((List.length (fU d [(o,()),(d.1,())] (cC d c)):Nat):Int)=1 by omega),fl h0,cond_true,List.getElem?_eq_getElem h0,UM,ak (show (cC d c).2.2.1=d.2.2.2.2.2.2.2.2.2.2.2.2.2.2.2.2.2.2.2.1 from rfl)];rw [eD];simp only [Option.bind_some,Bool.not_true,cond_false];have eB:=(zJ (bG d c [(o,()),(d.1,())]) (eC o c) gs (Nat.zero_le _)).2;rw [tk] at eB;have eB:jb (bG d c [(o,()),(d.1,())]).1 (bG d c [(o,()),(d.1,())]).2.1 (bG d c [(o,()),(d.1,())]).2.2.1 (bG d c [(o,()),(d.1,())]).2.2.2.1 (bG d c [(o,()),(d.1,())]).2.2.2.2.1 (bG d c [(o,()),(d.1,())]).2.2.2.2.2.1 (bG d c [(o,()),(d.1,())]).2.2.2.2.2.2.1 (bG d c [(o,()),(d.1,())]).2.2.2.2.2.2.2.1 (bG d c [(o,()),(d.1,())]).2.2.2.2.2.2.2.2.1 (bG d c [(o,()),(d.1,())]).2.2.2.2.2.2.2.2.2.1 (bG d c [(o,()),(d.1,())]).2.2.2.2.2.2.2.2.2.2.1 (bG d c [(o,()),(d.1,())]).2.2.2.2.2.2.2.2.2.2.2.1 (bG d c [(o,()),(d.1,())]).2.2.2.2.2.2.2.2.2.2.2.2.1 (bG d c [(o,()),(d.1,())]).2.2.2.2.2.2.2.2.2.2.2.2.2.1 (bG d c [(o,()),(d.1,())]).2.2.2.2.2.2.2.2.2.2.2.2.2.2.1 (bG d c [(o,()),(d.1,())]).2.2.2.2.2.2.2.2.2.2.2.2.2.2.2.1 (bG d c [(o,()),(d.1,())]).2.2.2.2.2.2.2.2.2.2.2.2.2.2.2.2.1 (bG d c [(o,()),(d.1,())]).2.2.2.2.2.2.2.2.2.2.2.2.2.2.2.2.2.1 (bG d c [(o,()),(d.1,())]).2.2.2.2.2.2.2.2.2.2.2.2.2.2.2.2.2.2.1 (bG d c [(o,()),(d.1,())]).2.2.2.2.2.2.2.2.2.2.2.2.2.2.2.2.2.2.2.1 (bG d c [(o,()),(d.1,())]).2.2.2.2.2.2.2.2.2.2.2.2.2.2.2.2.2.2.2.2.1 (bG d c [(o,()),(d.1,())]).2.2.2.2.2.2.2.2.2.2.2.2.2.2.2.2.2.2.2.2.2.1 (bG d c [(o,()),(d.1,())]).2.2.2.2.2.2.2.2.2.2.2.2.2.2.2.2.2.2.2.2.2.2.1 (bG d c [(o,()),(d.1,())]).2.2.2.2.2.2.2.2.2.2.2.2.2.2.2.2.2.2.2.2.2.2.2.1 o c 0 []=_:=eB;rw [eB];simp only [Option.bind_some,cond_true];have hg2:=FD g (by omega) (b:=eC o c) (Nat.zero_le _) (by rw [tk]);rw [tk] at hg2;have gm:=hg2.1;generalize hM:(dU (dz (bG d c [(o,()),(d.1,())]) ([cC d c]++[eC o c])))=m at *;have m19:m.2.2.2.2.2.2.2.2.2.2.2.2.2.2.2.2.2.2.2.1=c:=by rw [←hM];rfl
   have m20:m.2.2.2.2.2.2.2.2.2.2.2.2.2.2.2.2.2.2.2.2.1=0:=by rw [←hM];rfl
   obtain ⟨L,hL⟩:∃L:List tK,m.2.2.2.2.2.2.2.2.2.2.2.2.2.2.2.2.2.2.2.2.2.2.2.1=L++[(3,c,[(o,()),(d.1,())],0,0,0,ByteArray.empty,[(o,()),(d.1,())],())]:=by rw [←hM];exact ⟨_,rfl⟩
   have eD2:=(j6 m (gm.small (by omega))).2.1;rw [(j6 m (gm.small (by omega))).2.2.2 gm.q] at eD2;have Uj:=gm.log;rw [hL,List.length_append,List.length_singleton] at Uj;have hw:IntKind.i64.wrap (((L.length+1:Nat):Int)-1)=((L.length:Nat):Int):=by rw [cD]<;>omega
   have Gv:(L++[((3,c,[(o,()),(d.1,())],0,0,0,ByteArray.empty,[(o,()),(d.1,())],()):tK)])[L.length]?=some (3,c,[(o,()),(d.1,())],0,0,0,ByteArray.empty,[(o,()),(d.1,())],()):=by
    rw [List.getElem?_append_right (Nat.le_refl _),Nat.sub_self];rfl
   have ar9:L.length<(L++[((3,c,[(o,()),(d.1,())],0,0,0,ByteArray.empty,[(o,()),(d.1,())],()):tK)]).length:=by rw [List.length_append,List.length_singleton];omega
   rw [m19,m20,hL] at *;simp only [decide_true,cond_true,List.length_append,List.length_singleton,hw,ax,aF] at *;have agB:L.length<L.length+1:=by omega
   simp only [fl agB,cond_true,Gv,Option.bind_some,ak (rfl:(3:Int)=3)];rw [eD2];rfl
theorem O6 (code:List (Int×Unit)):jS code=some (true,()):=by
 by_cases hb:(1048576:Int)<((List.length code:Nat):Int)
 ·unfold jS AK;delta az aw aP;rw [ak hb];rfl
 obtain ⟨d,t,b,x,e1,_⟩:=xw code (by omega);have same:∀(d':bZ) (t':lT) (b':dS) (x':dY),fB code=some (d'.1,d'.2.1,d'.2.2.1,d'.2.2.2.1,d'.2.2.2.2.1,d'.2.2.2.2.2.1,d'.2.2.2.2.2.2.1,d'.2.2.2.2.2.2.2.1,d'.2.2.2.2.2.2.2.2.1,d'.2.2.2.2.2.2.2.2.2.1,d'.2.2.2.2.2.2.2.2.2.2.1,d'.2.2.2.2.2.2.2.2.2.2.2.1,d'.2.2.2.2.2.2.2.2.2.2.2.2.1,d'.2.2.2.2.2.2.2.2.2.2.2.2.2.1,d'.2.2.2.2.2.2.2.2.2.2.2.2.2.2.1,d'.2.2.2.2.2.2.2.2.2.2.2.2.2.2.2.1,d'.2.2.2.2.2.2.2.2.2.2.2.2.2.2.2.2.1,d'.2.2.2.2.2.2.2.2.2.2.2.2.2.2.2.2.2.1,d'.2.2.2.2.2.2.2.2.2.2.2.2.2.2.2.2.2.2.1,d'.2.2.2.2.2.2.2.2.2.2.2.2.2.2.2.2.2.2.2.1,d'.2.2.2.2.2.2.2.2.2.2.2.2.2.2.2.2.2.2.2.2.1,d'.2.2.2.2.2.2.2.2.2.2.2.2.2.2.2.2.2.2.2.2.2.1,d'.2.2.2.2.2.2.2.2.2.2.2.2.2.2.2.2.2.2.2.2.2.2.1,d'.2.2.2.2.2.2.2.2.2.2.2.2.2.2.2.2.2.2.2.2.2.2.2.1,t'.1,t'.2.1,t'.2.2.1,t'.2.2.2.1,t'.2.2.2.2.1,t'.2.2.2.2.2.1,b'.1,b'.2.1,b'.2.2.1,b'.2.2.2.1,x'.1,x'.2.1,x'.2.2.1,x'.2.2.2.1,())→d'.1=d.1:=by
  intro d' t' b' x' e;have h:=Option.some.inj (e.symm.trans e1);have h2:=congrArg (fun z=>z.1) h;exact h2
 by_cases dM:d.1<IntKind.i64.wrap (Int.tmod d.1 5+1)
 ·exact Q4 code fun d' t' b' x' e=>by rw [same d' t' b' x' e];exact dM
 ·exact ML code fun d' t' b' x' e=>by rw [same d' t' b' x' e];exact dM
end Go.TM
