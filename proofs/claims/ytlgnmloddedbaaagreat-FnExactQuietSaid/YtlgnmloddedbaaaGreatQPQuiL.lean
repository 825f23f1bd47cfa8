/- A ring that comes to rest: Quiet, in the program and in the reference, of any work. -/
import Derived.Test.YtlgnmloddedbaaaGreatQPPNext
set_option linter.unusedSimpArgs false
set_option linter.unusedVariables false
namespace Go.TM
open Go
theorem Bo (xs:aW) (h:xs.length≤268435456):bo xs=some (xs,()):=by
 unfold bo;rw [aQ (show (0+xs.length)*40≤lim by unfold lim;omega)];rfl
structure E8 (w:bT):Prop where
 mem:w.2.1.length≤1048576
 Rv:w.2.2.1.length≤1048576
 mat:∀m∈w.2.2.1,EV m≤1048576
 JH:w.2.2.2.1.length≤268435456
 lR:∀f∈w.2.2.2.1,f.q.2.2.1.length≤1048576
 JD:w.2.2.2.2.1.length≤268435456
 list:∀h∈w.2.2.2.2.1,h.1.length≤268435456
 said:w.q.1.length≤268435456
theorem E9 {w:bT} (h:E8 w):ly w.1 w.2.1 w.2.2.1 w.2.2.2.1 w.2.2.2.2.1 w.q.1=some (w.1,w.2.1,w.2.2.1,w.2.2.2.1,w.2.2.2.2.1,w.q.1,()):=by
 have q0:=h.Rv;have q1:=h.mem;have hf:=h.JH;have hs:=h.said;have hh:=h.JD;have Rw:=h.list;have l1:=bI (round:=iu) (e:=.inl (w.1,w.2.1,w.2.2.1,w.2.2.2.1,w.2.2.2.2.1,w.q.1,(0:Int),[],[],[],[],[],w.1,w.2.1,w.2.2.1,[],[],w.q.1,())) w.2.2.1.length (fun k=>(w.1,w.2.1,w.2.2.1,w.2.2.2.1,w.2.2.2.2.1,w.q.1,(0:Int),[],[],[],[],[],w.1,w.2.1,w.2.2.1.take k,[],[],w.q.1,((k:Nat):Int),())) (by
  simp only [iu,p7,aD,cond_false,List.take_length]) (fun k hk=>by
  have hc:=(mY (w.2.2.1[k]).1 (w.2.2.1[k]).2.1 (w.2.2.1[k]).2.2.1 (w.2.2.1[k]).2.2.2.1 (w.2.2.1[k]).2.2.2.2.1 (w.2.2.1[k]).q.1 (w.2.2.1[k]).q.2.1 (w.2.2.1[k]).q.2.2.1 (w.2.2.1[k]).q.2.2.2.1 (w.2.2.1[k]).q.2.2.2.2.1 (w.2.2.1[k]).q.q.1 (w.2.2.1[k]).q.q.2.1 (w.2.2.1[k]).q.q.2.2.1 (w.2.2.1[k]).q.q.2.2.2.1 (w.2.2.1[k]).q.q.2.2.2.2.1 (w.2.2.1[k]).q.q.q.1 (h.mat _ (List.getElem_mem hk))).1;simp only [iu,p7,az hk,aw,cond_true,aC,List.getElem?_eq_getElem hk,Option.bind_some,hc,List.length_take,aQ (show (min k w.2.2.1.length+1)*208≤lim by unfold lim;omega),aE (show k<4611686018427387904 by omega)];rw [List.take_succ_eq_append_getElem hk])
 have l1:aF iu (w.1,w.2.1,w.2.2.1,w.2.2.2.1,w.2.2.2.2.1,w.q.1,(0:Int),[],[],[],[],[],w.1,w.2.1,[],[],[],w.q.1,(0:Int),())=_:=l1;have l2:=bI (round:=iv) (e:=.inl (w.1,w.2.1,w.2.2.1,w.2.2.2.1,w.2.2.2.2.1,w.q.1,(0:Int),[],[],[],[],[],w.1,w.2.1,w.2.2.1,w.2.2.2.1,[],w.q.1,())) w.2.2.2.1.length (fun k=>(w.1,w.2.1,w.2.2.1,w.2.2.2.1,w.2.2.2.2.1,w.q.1,(0:Int),[],[],[],[],[],w.1,w.2.1,w.2.2.1,w.2.2.2.1.take k,[],w.q.1,((k:Nat):Int),())) (by
  simp only [iv,p8,aD,cond_false,List.take_length]) (fun k hk=>by
  have hc:=(gh (w.2.2.2.1[k]).2.2.1 (w.2.2.2.1[k]).2.2.2.1 (w.2.2.2.1[k]).2.2.2.2.1 (w.2.2.2.1[k]).q.1 (w.2.2.2.1[k]).q.2.1 (w.2.2.2.1[k]).q.2.2.1 (h.lR _ (List.getElem_mem hk))).1;simp only [iv,p8,az hk,aw,cond_true,aC,List.getElem?_eq_getElem hk,Option.bind_some,hc,List.length_take,aQ (show (min k w.2.2.2.1.length+1)*120≤lim by unfold lim;omega),aE (show k<4611686018427387904 by omega)];rw [List.take_succ_eq_append_getElem hk])
 have l2:aF iv (w.1,w.2.1,w.2.2.1,w.2.2.2.1,w.2.2.2.2.1,w.q.1,(0:Int),[],[],[],[],[],w.1,w.2.1,w.2.2.1,[],[],w.q.1,(0:Int),())=_:=l2;have l3:=bI (round:=fN) (e:=.inl ((0:Int),[],[],[],[],[],w.1,w.2.1,w.2.2.1,w.2.2.2.1,w.2.2.2.2.1,w.q.1,())) w.2.2.2.2.1.length (fun k=>(w.1,w.2.1,w.2.2.1,w.2.2.2.1,w.2.2.2.2.1,w.q.1,(0:Int),[],[],[],[],[],w.1,w.2.1,w.2.2.1,w.2.2.2.1,w.2.2.2.2.1.take k,w.q.1,((k:Nat):Int),())) (by
  simp only [fN,ke,aD,cond_false,List.take_length]) (fun k hk=>by
  have hx:=Rw _ (List.getElem_mem hk);simp only [fN,ke,az hk,aw,cond_true,aC,List.getElem?_eq_getElem hk,Option.bind_some,List.length_take,List.nil_append,aQ (show (0+(w.2.2.2.2.1[k]).1.length)*40≤lim by unfold lim;omega),aQ (show (min k w.2.2.2.2.1.length+1)*24≤lim by unfold lim;omega),aE (show k<4611686018427387904 by omega)];rw [List.take_succ_eq_append_getElem hk])
 have l3:aF fN (w.1,w.2.1,w.2.2.1,w.2.2.2.1,w.2.2.2.2.1,w.q.1,(0:Int),[],[],[],[],[],w.1,w.2.1,w.2.2.1,w.2.2.2.1,[],w.q.1,(0:Int),())=_:=l3;unfold ly;simp only [aQ (show (0+w.2.1.length)*8≤lim by unfold lim;omega),aQ (show (0+w.q.1.length)*40≤lim by unfold lim;omega),cond_true,List.nil_append,l1,l2,l3,bN,Option.bind_some]
theorem Fa {w:bT} (h:E8 w):gn w.1 w.2.1 w.2.2.1 w.2.2.2.1 w.2.2.2.2.1 w.q.1=some (w.1,w.2.1,w.2.2.1,w.2.2.2.1,w.2.2.2.2.1,w.q.1,()):=by
 have q0:=h.Rv;have q1:=h.mem;have hf:=h.JH;have hs:=h.said;have hh:=h.JD;have Rw:=h.list;have l1:=bI (round:=eU) (e:=.inl (w.1,w.2.1,w.2.2.1,w.2.2.2.1,w.2.2.2.2.1,w.q.1,(0:Int),[],[],[],[],[],w.1,w.2.1,w.2.2.1,[],[],w.q.1,())) w.2.2.1.length (fun k=>(w.1,w.2.1,w.2.2.1,w.2.2.2.1,w.2.2.2.2.1,w.q.1,(0:Int),[],[],[],[],[],w.1,w.2.1,w.2.2.1.take k,[],[],w.q.1,w.2.2.1,((w.2.2.1.length:Nat):Int),((k:Nat):Int),())) (by
  simp only [eU,oC,aD,cond_false,List.take_length]) (fun k hk=>by
  have hc:=(mY (w.2.2.1[k]).1 (w.2.2.1[k]).2.1 (w.2.2.1[k]).2.2.1 (w.2.2.1[k]).2.2.2.1 (w.2.2.1[k]).2.2.2.2.1 (w.2.2.1[k]).q.1 (w.2.2.1[k]).q.2.1 (w.2.2.1[k]).q.2.2.1 (w.2.2.1[k]).q.2.2.2.1 (w.2.2.1[k]).q.2.2.2.2.1 (w.2.2.1[k]).q.q.1 (w.2.2.1[k]).q.q.2.1 (w.2.2.1[k]).q.q.2.2.1 (w.2.2.1[k]).q.q.2.2.2.1 (w.2.2.1[k]).q.q.2.2.2.2.1 (w.2.2.1[k]).q.q.q.1 (h.mat _ (List.getElem_mem hk))).2;simp only [eU,oC,az hk,aw,cond_true,aC,List.getElem?_eq_getElem hk,Option.bind_some,hc,List.length_take,aQ (show (min k w.2.2.1.length+1)*208≤lim by unfold lim;omega),aE (show k<4611686018427387904 by omega)];rw [List.take_succ_eq_append_getElem hk])
 have l1:aF eU (w.1,w.2.1,w.2.2.1,w.2.2.2.1,w.2.2.2.2.1,w.q.1,(0:Int),[],[],[],[],[],w.1,w.2.1,[],[],[],w.q.1,w.2.2.1,((w.2.2.1.length:Nat):Int),(0:Int),())=_:=l1;have l2:=bI (round:=eV) (e:=.inl (w.1,w.2.1,w.2.2.1,w.2.2.2.1,w.2.2.2.2.1,w.q.1,(0:Int),[],[],[],[],[],w.1,w.2.1,w.2.2.1,w.2.2.2.1,[],w.q.1,())) w.2.2.2.1.length (fun k=>(w.1,w.2.1,w.2.2.1,w.2.2.2.1,w.2.2.2.2.1,w.q.1,(0:Int),[],[],[],[],[],w.1,w.2.1,w.2.2.1,w.2.2.2.1.take k,[],w.q.1,w.2.2.2.1,((w.2.2.2.1.length:Nat):Int),((k:Nat):Int),())) (by
  simp only [eV,oD,aD,cond_false,List.take_length]) (fun k hk=>by
  have hc:=(gh (w.2.2.2.1[k]).2.2.1 (w.2.2.2.1[k]).2.2.2.1 (w.2.2.2.1[k]).2.2.2.2.1 (w.2.2.2.1[k]).q.1 (w.2.2.2.1[k]).q.2.1 (w.2.2.2.1[k]).q.2.2.1 (h.lR _ (List.getElem_mem hk))).2;simp only [eV,oD,vM,az hk,aw,cond_true,aC,List.getElem?_eq_getElem hk,Option.bind_some,hc,List.length_take,aQ (show (min k w.2.2.2.1.length+1)*120≤lim by unfold lim;omega),aE (show k<4611686018427387904 by omega)];rw [List.take_succ_eq_append_getElem hk])
 have l2:aF eV (w.1,w.2.1,w.2.2.1,w.2.2.2.1,w.2.2.2.2.1,w.q.1,(0:Int),[],[],[],[],[],w.1,w.2.1,w.2.2.1,[],[],w.q.1,w.2.2.2.1,((w.2.2.2.1.length:Nat):Int),(0:Int),())=_:=l2;have l3:=bI (round:=eW) (e:=.inl ((0:Int),[],[],[],[],[],w.1,w.2.1,w.2.2.1,w.2.2.2.1,w.2.2.2.2.1,w.q.1,())) w.2.2.2.2.1.length (fun k=>((0:Int),[],[],[],[],[],w.1,w.2.1,w.2.2.1,w.2.2.2.1,w.2.2.2.2.1.take k,w.q.1,w.2.2.2.2.1,((w.2.2.2.2.1.length:Nat):Int),((k:Nat):Int),())) (by
  simp only [eW,oE,aD,cond_false,List.take_length]) (fun k hk=>by
  have hx:=Rw _ (List.getElem_mem hk);simp only [eW,oE,az hk,aw,cond_true,aC,List.getElem?_eq_getElem hk,Option.bind_some,List.length_take,Bo _ hx,aQ (show (min k w.2.2.2.2.1.length+1)*24≤lim by unfold lim;omega),aE (show k<4611686018427387904 by omega)];rw [List.take_succ_eq_append_getElem hk])
 have l3:aF eW ((0:Int),[],[],[],[],[],w.1,w.2.1,w.2.2.1,w.2.2.2.1,[],w.q.1,w.2.2.2.2.1,((w.2.2.2.2.1.length:Nat):Int),(0:Int),())=_:=l3;unfold gn;simp only [FL w.1 w.2.1 q1,Bo _ hs,Option.bind_some,l1,l2,l3,bN]
def Fb (w:bT) (k:Nat):Prop:=∀(hk:k<w.2.2.1.length) (hm:k<w.2.1.length),sI w.2.2.1[k]∧(w.2.2.1[k]).1=w.2.1[k].1
theorem Lr {w:bT} (hc:E8 w):∃b:Bool,o8 w.1 w.2.1 w.2.2.1 w.2.2.2.1 w.2.2.2.2.1 w.q.1=some (b,())∧ym w.1 w.2.1 w.2.2.1 w.2.2.2.1 w.2.2.2.2.1 w.q.1=some (b,())∧(b=true→EU w.1 w.2.1∧w.2.2.1.length=w.2.1.length∧w.2.2.2.2.1.length=w.2.1.length∧∀k,Fb w k):=by
 obtain ⟨r1,r2,r3⟩:=HF w.1 w.2.1 hc.mem;have Pf:=hc.Rv;unfold o8 ym;simp only [r1,r2,Option.bind_some]
 cases hr:CY w.1 w.2.1
 ·exact ⟨false,rfl,rfl,fun h=>by cases h⟩
 by_cases h1:w.2.2.1.length=w.2.1.length
 case neg=>
  simp only [Bool.not_true,cond_false,aq (show ¬((w.2.2.1.length:Nat):Int)=((w.2.1.length:Nat):Int) by omega),Bool.not_false,cond_true];exact ⟨false,rfl,rfl,fun h=>by cases h⟩
 by_cases h2:w.2.2.2.2.1.length=w.2.1.length
 case neg=>
  simp only [Bool.not_true,cond_false,aj (show ((w.2.2.1.length:Nat):Int)=((w.2.1.length:Nat):Int) by omega),aq (show ¬((w.2.2.2.2.1.length:Nat):Int)=((w.2.1.length:Nat):Int) by omega),aq (show ¬((w.2.2.2.2.1.length:Nat):Int)=((w.2.2.1.length:Nat):Int) by omega),Bool.not_false,cond_true];exact ⟨false,rfl,rfl,fun h=>by cases h⟩
 simp only [Bool.not_true,cond_false,aj (show ((w.2.2.1.length:Nat):Int)=((w.2.1.length:Nat):Int) by omega),aj (show ((w.2.2.2.2.1.length:Nat):Int)=((w.2.1.length:Nat):Int) by omega),aj (show ((w.2.2.2.2.1.length:Nat):Int)=((w.2.2.1.length:Nat):Int) by omega)];obtain ⟨e,he,hq⟩:=cL (round:=gD) (x:=(w.1,w.2.1,w.2.2.1,w.2.2.2.1,w.2.2.2.2.1,w.q.1,((0:Nat):Int),())) w.2.2.1.length (fun k x=>x=(w.1,w.2.1,w.2.2.1,w.2.2.2.1,w.2.2.2.2.1,w.q.1,((k:Nat):Int),())∧∀j,j<k→Fb w j)
  (fun e=>(e=.inl ()∧∀j,Fb w j)∨(e=.inr (false,())∧¬∀j,Fb w j)) (by
   rintro x ⟨rfl,g⟩
   exact ⟨.inl (),by simp only [gD,ow,aD,cond_false],.inl ⟨rfl,fun j hk hm=>g j hk hk hm⟩⟩) (by
   rintro k x hk ⟨rfl,g⟩
   have qw:k<w.2.1.length:=by omega
   obtain ⟨m1,m2,m3⟩:=xP w.2.2.1[k] (hc.mat _ (List.getElem_mem hk));simp only [gD,ow,az hk,aw,cond_true,aC,List.getElem?_eq_getElem hk,List.getElem?_eq_getElem qw,Option.bind_some,m1,aE (show k<4611686018427387904 by omega)]
   by_cases e:(w.2.2.1[k]).1=w.2.1[k].1
   ·rw [aj e];simp only [Bool.not_true,cond_false]
    cases hb:xO w.2.2.1[k]
    ·exact .inl ⟨_,rfl,.inr ⟨rfl,fun mI=>by have:=m3.2 (mI k hk qw).1;rw [hb] at this;cases this⟩⟩
    ·refine .inr ⟨_,rfl,rfl,fun j hj => ?_⟩
     by_cases e2:j<k
     ·exact g j e2
     ·have:j=k:=by omega
      subst this;exact fun _ _=>⟨m3.1 hb,e⟩
   ·rw [aq e];exact .inl ⟨_,rfl,.inr ⟨rfl,fun mI=>e (mI k hk qw).2⟩⟩) ⟨rfl,fun j hj=>by omega⟩
 obtain ⟨e',MB,hq'⟩:=cL (round:=lF) (x:=(w.1,w.2.1,w.2.2.1,w.2.2.2.1,w.2.2.2.2.1,w.q.1,w.2.2.1,((w.2.2.1.length:Nat):Int),((0:Nat):Int),())) w.2.2.1.length (fun k x=>x=(w.1,w.2.1,w.2.2.1,w.2.2.2.1,w.2.2.2.2.1,w.q.1,w.2.2.1,((w.2.2.1.length:Nat):Int),((k:Nat):Int),())∧∀j,j<k→Fb w j)
  (fun e=>(e=.inl ()∧∀j,Fb w j)∨(e=.inr (false,())∧¬∀j,Fb w j)) (by
   rintro x ⟨rfl,g⟩
   exact ⟨.inl (),by simp only [lF,vN,aD,cond_false],.inl ⟨rfl,fun j hk hm=>g j hk hk hm⟩⟩) (by
   rintro k x hk ⟨rfl,g⟩
   have qw:k<w.2.1.length:=by omega
   obtain ⟨m1,m2,m3⟩:=xP w.2.2.1[k] (hc.mat _ (List.getElem_mem hk));simp only [lF,vN,az hk,aw,cond_true,aC,List.getElem?_eq_getElem hk,List.getElem?_eq_getElem qw,Option.bind_some,m2,aE (show k<4611686018427387904 by omega)]
   cases hb:xO w.2.2.1[k]
   ·exact .inl ⟨_,rfl,.inr ⟨rfl,fun mI=>by have:=m3.2 (mI k hk qw).1;rw [hb] at this;cases this⟩⟩
   ·by_cases e:(w.2.2.1[k]).1=w.2.1[k].1
    ·rw [aj e];refine .inr ⟨_,rfl,rfl,fun j hj => ?_⟩
     by_cases e2:j<k
     ·exact g j e2
     ·have:j=k:=by omega
      subst this;exact fun _ _=>⟨m3.1 hb,e⟩
    ·rw [aq e];exact .inl ⟨_,rfl,.inr ⟨rfl,fun mI=>e (mI k hk qw).2⟩⟩) ⟨rfl,fun j hj=>by omega⟩
 have he:aF gD (w.1,w.2.1,w.2.2.1,w.2.2.2.1,w.2.2.2.2.1,w.q.1,(0:Int),())=some e:=he;have MB:aF lF (w.1,w.2.1,w.2.2.1,w.2.2.2.1,w.2.2.2.2.1,w.q.1,w.2.2.1,((w.2.2.1.length:Nat):Int),(0:Int),())=some e':=MB;simp only [he,MB,bN,Option.bind_some];rcases hq with ⟨rfl,g⟩ | ⟨rfl,g⟩
 ·rcases hq' with ⟨rfl,g'⟩ | ⟨rfl,g'⟩
  ·exact ⟨true,rfl,rfl,fun _=>⟨r3.1 hr,h1,h2,g⟩⟩
  ·exact absurd g g'
 ·rcases hq' with ⟨rfl,g'⟩ | ⟨rfl,g'⟩
  ·exact absurd g' g
  ·exact ⟨false,rfl,rfl,fun h=>by cases h⟩
def FW (l:List oO):Nat:=l.length+wl aH l
def IW (l:aW):Nat:=l.length+wl bP l
def HW (l:Tw):Nat:=l.length+wl bD l
theorem FW.app (a b:List oO):FW (a++b)=FW a+FW b:=by unfold FW;rw [List.length_append,Ek];omega
theorem IW.app (a b:aW):IW (a++b)=IW a+IW b:=by unfold IW;rw [List.length_append,Ek];omega
theorem FW.drop (l:List oO):FW (l.drop 1)≤FW l:=by
 cases l with
 |nil=>exact Nat.le_refl _
 |cons f l=>
  show FW l≤_;unfold FW;rw [List.length_cons,sU];omega
theorem IW.short {l:aW} (h:∀x∈l,ByteArray.size x.2.2.2.1≤60):IW l≤61*l.length:=by
 have:=GP bP 60 l h;unfold IW;omega
theorem FW.tell {ms:List eZ} (hm:ms.length≤5) (id:Int) {l:aW} (h:∀x∈l,ByteArray.size x.2.2.2.1≤60):FW (dY ms id l)≤305*l.length:=by
 have h1:=oP ms id 5 hm l;have h2:=GP aH 60 (dY ms id l) (fun f hf=>by
  obtain ⟨m,_,x,hx,_,rfl⟩:=GU hf;have:=h x hx;show (0+0)+ByteArray.size x.2.2.2.1≤60;omega)
 unfold FW;omega
theorem FW.tok (a:Int) {t:oN} (h:t.q.1.length≤20):FW [iX a t]≤21:=by
 have w0:=qG jN (fun _=>rfl) t.q.1;show 1+((t.q.1.length+wl jN t.q.1)+0+0)≤21;omega
theorem HW.set {l:Tw} {k:Nat} (hk:k<l.length) (x:aW):HW (l.set k (x,()))+IW (l[k]).1=HW l+IW x:=by
 induction l generalizing k with
 |nil=>cases hk
 |cons y l ih=>
  cases k with
  |zero=>
   show HW ((x,())::l)+IW y.1=HW (y::l)+IW x;unfold HW IW;rw [sU,sU,List.length_cons,List.length_cons];show l.length+1+((x.length+wl bP x)+wl bD l)+(y.1.length+wl bP y.1)=l.length+1+((y.1.length+wl bP y.1)+wl bD l)+(x.length+wl bP x);omega
  |succ k=>
   have:=ih (Nat.lt_of_succ_lt_succ hk);show HW (y::l.set k (x,()))+IW (l[k]'(Nat.lt_of_succ_lt_succ hk)).1=HW (y::l)+IW x;unfold HW at this ⊢;rw [sU,sU,List.length_cons,List.length_cons];omega
theorem FN {xs:aW} (h:ik xs xs.length) (s:Int):ByteArray.size (yt xs s).2.2.2.1≤60:=by
 unfold yt
 cases hi:dL xs s with
 |none=>exact Nat.zero_le _
 |some r=>exact (yr h r (EP hi).1).2.2.2
structure Rx (a j:Nat) (w:bT):Prop where
 JH:FW w.2.2.2.1≤1048576+25000*a
 said:IW w.q.1≤1048576+4000*a
 heard:HW w.2.2.2.2.1≤1048576+4000*j
theorem Rx.up {a j a' j':Nat} {w:bT} (h:Rx a j w) (ha:a≤a') (hj:j≤j'):Rx a' j' w:=
 ⟨Nat.le_trans h.JH (by omega),Nat.le_trans h.said (by omega),Nat.le_trans h.heard (by omega)⟩
theorem TC {n a j:Nat} {w w':bT} {f:oO} (hX:gr n w) (h:Rx a j w) (hc:Came w f w'):Rx (a+1) j w':=by
 cases hc with
 |no=>exact h.up (Nat.le_succ a) (Nat.le_refl j)
 |Rt k hk Hi ht=>exact ⟨(h.up (Nat.le_succ a) (Nat.le_refl j)).JH,(h.up (Nat.le_succ a) (Nat.le_refl j)).said,h.heard⟩
 |held k hk Hi ht m' said i nx hT hr H=>
  have hm:=hX.sA _ (List.getElem_mem hk);have UD:∀x∈said,ByteArray.size x.2.2.2.1≤60:=fun x hx=>by
   rw [H.said] at hx;rcases List.mem_append.1 hx with hx | hx
   ·exact (yr hm.items x (Rp hx)).2.2.2
   ·exact (C4 ⟨hT.2.2.1.1,H.Cn.2.2⟩ hm.id H.Cn.2.1 hm.short x hx).2.2.2
  have hlen:said.length≤63:=by
   rw [H.said,List.length_append,j6];have:=E1 (f.2.2.1,f.2.2.2.1,f.2.2.2.2.1,f.q.1,f.q.2.1,f.q.2.2.1,()) (w.2.2.1[k]).2.2.2.1;have:=(cQ _ hm.items).1;have:=H.Cn.1;omega
  have h1:=h.JH;have h2:=h.said;have hf:=FW.tell (ms:=w.2.2.1.set k m') (by rw [List.length_set];exact hX.Df.2.1) f.1 UD;have ht:=FW.tok (jL w.1 w.2.1 f.1) H.tq.q.1;refine ⟨?_,?_,h.heard⟩
  ·show FW ((w.2.2.2.1++dY (w.2.2.1.set k m') f.1 said)++[iX (jL w.1 w.2.1 f.1) nx])≤_;rw [FW.app,FW.app];omega
  ·show IW (w.q.1++Ad f said)≤_;rw [IW.app];have h3:=IW.short (l:=Ad f said) (fun x hx=>UD x (List.mem_filter.1 hx).1);have h4:=E7 f said;omega
theorem Jz {n:Nat} {w:bT} (h:gr n w) (hn:n≤1000000) {k:Nat} (hk:k<w.2.2.1.length):∃a w',mg w.1 w.2.1 w.2.2.1 w.2.2.2.1 w.2.2.2.2.1 w.q.1 ((k:Nat):Int)=some (a,w'.1,w'.2.1,w'.2.2.1,w'.2.2.2.1,w'.2.2.2.2.1,w'.q.1,())∧mC w.1 w.2.1 w.2.2.1 w.2.2.2.1 w.2.2.2.2.1 w.q.1 ((k:Nat):Int)=some (a,w'.1,w'.2.1,w'.2.2.1,w'.2.2.2.1,w'.2.2.2.2.1,w'.q.1,())∧gr (n+1) w'∧(w'=w∨w'=tN w w.2.2.1[k]):=by
 obtain ⟨q0,q1,q2⟩:=h.Df;have hm:=h.sA _ (List.getElem_mem hk);have hi:=(cQ _ hm.items).1;have hf:=h.Cn;have hl:=Jx hm;have hl:(w.2.2.1[k]).q.q.q.1.length≤20:=hl;rw [OC w hk q1 (by omega) (by omega) (by omega) (by omega)];unfold mC;have z:cY (w.2.2.1[k]).q.q.1 (w.2.2.1[k]).q.q.2.1 (w.2.2.1[k]).q.q.2.2.1 (w.2.2.1[k]).q.q.2.2.2.1 (w.2.2.1[k]).q.q.2.2.2.2.1 (w.2.2.1[k]).q.q.q.1=some (qm (jX w.2.2.1[k]),()):=(Bj (jX w.2.2.1[k])).2.1;simp only [aw,aC,cX hk,List.getElem?_eq_getElem hk,Option.bind_some,cond_true,z]
 cases hbl:qm (jX w.2.2.1[k])
 ·have p1:gX w.1 w.2.1 w.2.2.1 w.2.2.2.1 w.2.2.2.2.1 w.q.1 (w.2.2.1[k]).1 (w.2.2.1[k]).q.q.1 (w.2.2.1[k]).q.q.2.1 (w.2.2.1[k]).q.q.2.2.1 (w.2.2.1[k]).q.q.2.2.2.1 (w.2.2.1[k]).q.q.2.2.2.2.1 (w.2.2.1[k]).q.q.q.1=_:=Jw w (w.2.2.1[k]).1 (jX w.2.2.1[k]) (by omega) (by omega) (show (jX w.2.2.1[k]).q.1.length≤1048576 from by have:(jX w.2.2.1[k]).q.1.length≤20:=hl;omega);have p2:=TB w.2.2.1[k] (by omega);have Fc:(E6 w.2.2.1[k]).length≤60:=Nat.le_trans (List.length_filter_le _ _) hi;have p3:=C6 (ln w (w.2.2.2.1++[iX (jL w.1 w.2.1 (w.2.2.1[k]).1) (jX w.2.2.1[k])])) (w.2.2.1[k]).1 (E6 w.2.2.1[k]) h.len h.ids q0 (by show (w.2.2.2.1++[_]).length≤_;rw [List.length_append,List.length_singleton];omega) (by omega);refine ⟨0,tN w w.2.2.1[k],rfl,?_,(h.up (Nat.le_succ n)).Rq (fun f OS => ?_) ?_,.inr rfl⟩
  ·simp only [cond_false,p1,p2,Option.bind_some];rw [p3];rfl
  ·rcases List.mem_append.1 OS with OS | OS
   ·rcases List.mem_append.1 OS with OS | OS
    ·exact h.lR f OS
    ·rw [List.mem_singleton] at OS;subst OS;show (jX w.2.2.1[k]).q.1.length≤1048576;have:(jX w.2.2.1[k]).q.1.length≤20:=hl;omega
   ·exact Jy f OS
  ·have h1:=oP w.2.2.1 (w.2.2.1[k]).1 5 q1 (E6 w.2.2.1[k]);rw [List.length_append,List.length_append,List.length_singleton];omega
 ·exact ⟨1,w,rfl,rfl,h.up (Nat.le_succ n),.inl rfl⟩
theorem Ls {n:Nat} {w:bT} (h:gr n w) (hn:n≤1000000) {k:Nat} (hk:k<w.2.2.1.length):∃w',qQ w.1 w.2.1 w.2.2.1 w.2.2.2.1 w.2.2.2.2.1 w.q.1 ((k:Nat):Int)=some (w'.1,w'.2.1,w'.2.2.1,w'.2.2.2.1,w'.2.2.2.2.1,w'.q.1,())∧nK w.1 w.2.1 w.2.2.1 w.2.2.2.1 w.2.2.2.2.1 w.q.1 ((k:Nat):Int)=some (w'.1,w'.2.1,w'.2.2.1,w'.2.2.2.1,w'.2.2.2.2.1,w'.q.1,())∧gr (n+1) w'∧∃(qw:k<w.2.2.2.2.1.length) (j:Nat) (m':eZ),j≤60∧w'=Zx (uB w k m') (w.2.2.2.2.1.set k ((w.2.2.2.2.1[k]).1++il (w.2.2.1[k]).2.2.2.1 (w.2.2.1[k]).q.2.2.2.2.1 j,())):=by
 obtain ⟨q0,q1,q2⟩:=h.Df;have hm:=h.sA _ (List.getElem_mem hk);have hl:=h.len;have hh:=h.heard;have qw:k<w.2.2.2.2.1.length:=by omega
 obtain ⟨j,m',rfl,p1,p2,p3,p4,p5,_⟩:=Tv hm;have ha:=(Cj (w.2.2.1[k]).2.2.2.1 (Nat.le_trans (cQ _ hm.items).1 (by decide))).2.2.1;have hi:=(cQ _ hm.items).1;have hg:=hm.heard;have hj:j≤60:=by omega
 have hx:=h.list _ (List.getElem_mem qw);refine ⟨Zx (uB w k (yv w.2.2.1[k] ((w.2.2.1[k]).q.2.2.2.2.1+((j:Nat):Int)))) (w.2.2.2.2.1.set k ((w.2.2.2.2.1[k]).1++il (w.2.2.1[k]).2.2.2.1 (w.2.2.1[k]).q.2.2.2.2.1 j,())),?_,?_,?_,qw,j,_,hj,rfl⟩
 ·have h1:=E4 w (by omega) hk (yv w.2.2.1[k] ((w.2.2.1[k]).q.2.2.2.2.1+((j:Nat):Int)));unfold qQ;simp only [aw,cond_true,aC,List.getElem?_eq_getElem hk,Option.bind_some,p2,h1];show (bif Nat.ble ((0+w.2.2.2.2.1.length)*24) lim then _ else none)=_;simp only [uB,aQ (show (0+w.2.2.2.2.1.length)*24≤lim by unfold lim;omega),cond_true,List.nil_append,cX qw,List.getElem?_eq_getElem qw,Option.bind_some,aQ (show (0+(w.2.2.2.2.1[k]).1.length)*40≤lim by unfold lim;omega),sy,aQ (show ((w.2.2.2.2.1[k]).1.length+j)*40≤lim by unfold lim;omega)];rfl
 ·unfold nK
  try simp only [jg]
  simp only [aw,cond_true,aC,cX hk,List.getElem?_eq_getElem hk,Option.bind_some,p1,az qw,cX qw,List.getElem?_eq_getElem qw,sy,aQ (show ((w.2.2.2.2.1[k]).1.length+j)*40≤lim by unfold lim;omega),Nat.beq_refl];rfl
 ·have h2:=(h.Lm hk p3 rfl).up (Nat.le_succ n);exact
  {
   ring:=h2.ring,len:=h2.len,ids:=h2.ids,sA:=h2.sA,Cn:=h2.Cn,lR:=h2.lR,said:=h2.said
   heard:=by show (w.2.2.2.2.1.set k _).length=_;rw [List.length_set];exact hh
   list:=fun x sK=>by
    have sK:x∈w.2.2.2.2.1.set k _:=sK;rcases List.mem_or_eq_of_mem_set sK with sK | rfl
    ·exact h2.list x sK
    ·show ((w.2.2.2.2.1[k]).1++il _ _ j).length≤_;rw [List.length_append,sy];omega }
end Go.TM
