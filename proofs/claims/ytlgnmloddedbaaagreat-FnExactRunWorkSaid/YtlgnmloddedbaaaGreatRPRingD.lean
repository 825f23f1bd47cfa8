/- A ring's life, drawn and played by the reference. -/
import Derived.Test.YtlgnmloddedbaaaGreatRPRingL
set_option linter.unusedSimpArgs false
set_option linter.unusedVariables false
namespace Go.TM
open Go
end Go.TM
set_option linter.unusedSimpArgs false
set_option linter.unusedVariables false
namespace Go.TM
open Go
theorem Mn {c:Int} {ms:dF} (h:qt c ms) {id:Int} (yw:(id,())∈ms):pr (qR c ms id):={
 ring:=h
 mem:=yw
 items:=fun k hk=>by cases hk
 texts:=⟨Nat.zero_le _,rfl⟩
 Uw:=fun j hj=>by cases hj
 short:=fun j hj=>by cases hj
 round:=⟨Int.le_refl _,show (0:Int)≤1000000000 by decide⟩
 seen:=⟨Int.le_refl _,show (0:Int)≤60 by decide⟩
 line:=⟨Int.le_refl _,Int.natCast_nonneg _⟩
 heard:=⟨Int.le_refl _,Int.natCast_nonneg _⟩
 last:=.inl ⟨rfl,rfl,rfl,rfl,rfl,rfl⟩ }
def Br (c:Int):kY:=(c,1,0,0,0,[],())
theorem Kl {c:Int} {ms:dF} (h:qt c ms):Cn (Br c):=⟨h.1,⟨show (1:Int)≤1 by decide,show (1:Int)≤1000000000 by decide⟩,⟨show (0:Int)≤0 by decide,show (0:Int)≤60 by decide⟩,⟨show (0:Int)≤0 by decide,show (0:Int)≤0 by decide⟩,⟨show (0:Int)≤0 by decide,show (0:Int)≤5 by decide⟩,Nat.zero_le _,fun k hk=>by cases hk⟩
def j4 (c:Int) (ms:dF) (a:Int):bt:=(c,ms,ms.map fun m=>qR c ms m.1,[ff a (Br c)],List.replicate ms.length ([],()),[],())
theorem Da {c:Int} {ms:dF} (hr:qt c ms):eM c ms=some ((j4 c ms (ms[0]'hr.2.1.1).1).1,(j4 c ms (ms[0]'hr.2.1.1).1).2.1,(j4 c ms (ms[0]'hr.2.1.1).1).2.2.1,(j4 c ms (ms[0]'hr.2.1.1).1).2.2.2.1,(j4 c ms (ms[0]'hr.2.1.1).1).2.2.2.2.1,(j4 c ms (ms[0]'hr.2.1.1).1).q.1,true,()):=by
 have hl:=hr.2.1.2;have MH:=hr.2.1.1;have h:ms.length≤1048576:=by omega
 have r1:=(ig c ms h).1;rw [(ig c ms h).2.2.2 hr] at r1;have l1:=bD (round:=eW) (e:=.inl (c,ms,(0:Int),[],[],[],[],[],c,ms,ms.map fun m=>qR c ms m.1,[],List.replicate ms.length ([],()),[],())) ms.length (fun k=>(c,ms,(0:Int),[],[],[],[],[],c,ms,(ms.take k).map fun m=>qR c ms m.1,[],List.replicate k ([],()),[],((k:Nat):Int),())) (by
  simp only [eW,ka,aC,cond_false,List.take_length]) (fun k hk=>by
  simp only [eW,ka,ax hk,ak,cond_true,az,List.getElem?_eq_getElem hk,Option.bind_some,Ik c ms ms[k].1 h r1 (List.getElem_mem hk),List.length_map,List.length_take,List.length_replicate,Nat.min_eq_left (Nat.le_of_lt hk),aJ (show (k+1)*208≤lim by unfold lim;omega),aJ (show (k+1)*24≤lim by unfold lim;omega),aE (show k<4611686018427387904 by omega)];rw [map_take _ _ hk,List.replicate_succ'];rfl)
 have l1:aG eW (c,ms,(0:Int),[],[],[],[],[],c,ms,[],[],[],[],(0:Int),())=_:=l1;unfold eM mn;simp only [r1,Option.bind_some,Bool.not_true,cond_false,cond_true,aJ (show (0+ms.length)*8≤lim by unfold lim;omega),List.nil_append,l1,bO,List.getElem?_eq_getElem (show 0<ms.length by omega)];rfl
theorem Mo {c:Int} {ms:dF} (hr:qt c ms) (a:Int):fZ 0 c ms (j4 c ms a):={
 ring:=hr
 self:=⟨rfl,rfl⟩
 len:=by show (ms.map _).length=_;rw [List.length_map]
 ids:=fun k hk hm=>by
  have hk:k<(ms.map fun m=>qR c ms m.1).length:=hk;show ((ms.map fun m=>qR c ms m.1)[k]).1=_;rw [List.getElem_map];rfl
 pw:=fun m hm=>by
  have hm:m∈ms.map fun m=>qR c ms m.1:=hm
  obtain ⟨x,hx,rfl⟩:=List.mem_map.1 hm;exact ⟨Mn hr hx,rfl,rfl⟩
 Bn:=fun f hf=>by
  have hf:f∈[ff a (Br c)]:=hf;rw [List.mem_singleton] at hf;subst hf;exact Fm (Kl hr)
 wv:=by show 1≤_;omega
 heard:=by show (List.replicate _ _).length=_;rw [List.length_replicate]
 list:=fun x hx=>by
  have hx:x∈List.replicate ms.length (([],()):aS×Unit):=hx;rw [List.mem_replicate] at hx;rw [hx.2];exact Nat.zero_le _
 said:=⟨fun x hx=>(by cases hx),Nat.zero_le _⟩ }
theorem Su {n:Nat} {c:Int} {ms:dF} {w:bt} (h:fZ n c ms w) (hn:n≤1000):nD w.1 w.2.1 w.2.2.1 w.2.2.2.1 w.2.2.2.2.1 w.q.1=some (w.1,w.2.1,w.2.2.1,w.2.2.2.1,w.2.2.2.2.1,w.q.1,()):=by
 obtain ⟨q0,q1,q2⟩:=h.Dp;have hf:=h.wv;have hs:=h.said.2;have hh:=h.heard;have afr:=h.list;have l1:=bD (round:=iy) (e:=.inl (w.1,w.2.1,w.2.2.1,w.2.2.2.1,w.2.2.2.2.1,w.q.1,(0:Int),[],[],[],[],[],w.1,w.2.1,w.2.2.1,[],[],w.q.1,())) w.2.2.1.length (fun k=>(w.1,w.2.1,w.2.2.1,w.2.2.2.1,w.2.2.2.2.1,w.q.1,(0:Int),[],[],[],[],[],w.1,w.2.1,w.2.2.1.take k,[],[],w.q.1,((k:Nat):Int),())) (by
  simp only [iy,pV,aC,cond_false,List.take_length]) (fun k hk=>by
  have hc:=(mX (w.2.2.1[k]).1 (w.2.2.1[k]).2.1 (w.2.2.1[k]).2.2.1 (w.2.2.1[k]).2.2.2.1 (w.2.2.1[k]).2.2.2.2.1 (w.2.2.1[k]).q.1 (w.2.2.1[k]).q.2.1 (w.2.2.1[k]).q.2.2.1 (w.2.2.1[k]).q.2.2.2.1 (w.2.2.1[k]).q.2.2.2.2.1 (w.2.2.1[k]).q.q.1 (w.2.2.1[k]).q.q.2.1 (w.2.2.1[k]).q.q.2.2.1 (w.2.2.1[k]).q.q.2.2.2.1 (w.2.2.1[k]).q.q.2.2.2.2.1 (w.2.2.1[k]).q.q.q.1 (Nat.le_trans (h.pw _ (List.getElem_mem hk)).1.small (by decide))).1;simp only [iy,pV,ax hk,ak,cond_true,az,List.getElem?_eq_getElem hk,Option.bind_some,hc,List.length_take,aJ (show (min k w.2.2.1.length+1)*208≤lim by unfold lim;omega),aE (show k<4611686018427387904 by omega)];rw [List.take_succ_eq_append_getElem hk])
 have l1:aG iy (w.1,w.2.1,w.2.2.1,w.2.2.2.1,w.2.2.2.2.1,w.q.1,(0:Int),[],[],[],[],[],w.1,w.2.1,[],[],[],w.q.1,(0:Int),())=_:=l1;have l2:=bD (round:=iz) (e:=.inl (w.1,w.2.1,w.2.2.1,w.2.2.2.1,w.2.2.2.2.1,w.q.1,(0:Int),[],[],[],[],[],w.1,w.2.1,w.2.2.1,w.2.2.2.1,[],w.q.1,())) w.2.2.2.1.length (fun k=>(w.1,w.2.1,w.2.2.1,w.2.2.2.1,w.2.2.2.2.1,w.q.1,(0:Int),[],[],[],[],[],w.1,w.2.1,w.2.2.1,w.2.2.2.1.take k,[],w.q.1,((k:Nat):Int),())) (by
  simp only [iz,pY,aC,cond_false,List.take_length]) (fun k hk=>by
  have hc:=(gF (w.2.2.2.1[k]).2.2.1 (w.2.2.2.1[k]).2.2.2.1 (w.2.2.2.1[k]).2.2.2.2.1 (w.2.2.2.1[k]).q.1 (w.2.2.2.1[k]).q.2.1 (w.2.2.2.1[k]).q.2.2.1 (Nat.le_trans (h.Bn _ (List.getElem_mem hk)).wv (by decide))).1;simp only [iz,pY,ax hk,ak,cond_true,az,List.getElem?_eq_getElem hk,Option.bind_some,hc,List.length_take,aJ (show (min k w.2.2.2.1.length+1)*120≤lim by unfold lim;omega),aE (show k<4611686018427387904 by omega)];rw [List.take_succ_eq_append_getElem hk])
 have l2:aG iz (w.1,w.2.1,w.2.2.1,w.2.2.2.1,w.2.2.2.2.1,w.q.1,(0:Int),[],[],[],[],[],w.1,w.2.1,w.2.2.1,[],[],w.q.1,(0:Int),())=_:=l2;have l3:=bD (round:=gl) (e:=.inl ((0:Int),[],[],[],[],[],w.1,w.2.1,w.2.2.1,w.2.2.2.1,w.2.2.2.2.1,w.q.1,())) w.2.2.2.2.1.length (fun k=>(w.1,w.2.1,w.2.2.1,w.2.2.2.1,w.2.2.2.2.1,w.q.1,(0:Int),[],[],[],[],[],w.1,w.2.1,w.2.2.1,w.2.2.2.1,w.2.2.2.2.1.take k,w.q.1,((k:Nat):Int),())) (by
  simp only [gl,kh,aC,cond_false,List.take_length]) (fun k hk=>by
  have hx:=afr _ (List.getElem_mem hk);simp only [gl,kh,ax hk,ak,cond_true,az,List.getElem?_eq_getElem hk,Option.bind_some,List.length_take,List.nil_append,aJ (show (0+(w.2.2.2.2.1[k]).1.length)*40≤lim by unfold lim;omega),aJ (show (min k w.2.2.2.2.1.length+1)*24≤lim by unfold lim;omega),aE (show k<4611686018427387904 by omega)];rw [List.take_succ_eq_append_getElem hk])
 have l3:aG gl (w.1,w.2.1,w.2.2.1,w.2.2.2.1,w.2.2.2.2.1,w.q.1,(0:Int),[],[],[],[],[],w.1,w.2.1,w.2.2.1,w.2.2.2.1,[],w.q.1,(0:Int),())=_:=l3;unfold nD;simp only [aJ (show (0+w.2.1.length)*8≤lim by unfold lim;omega),aJ (show (0+w.q.1.length)*40≤lim by unfold lim;omega),cond_true,List.nil_append,l1,l2,l3,bO,Option.bind_some]
end Go.TM
set_option linter.unusedSimpArgs false
set_option linter.unusedVariables false
namespace Go.TM
open Go
theorem Km (a b:Nat):Int.tmod ((a:Nat):Int) ((b:Nat):Int)=((a % b:Nat):Int):=rfl
def Ns {A B:Type} (xs:List (Int×Unit)):Sum A (Int×Unit)→Sum B (Int×Unit)→Prop
 |.inl _,.inl _=>True
 |.inr a,.inr b=>∃(k:Nat) (r:Int×Unit),b.1=((k:Nat):Int)∧k<xs.length∧xs[(k+1) % xs.length]?=some r∧a.1=r.1
 |_,_=>False
theorem PA (c d:Int) (xs:List (Int×Unit)) (h:xs.length≤1048576) (h1:1≤xs.length) :
  ∃e f,aG cU (d,c,xs,(0:Int),())=some e∧aG bB (xs,d,((List.length xs:Nat):Int),(0:Int),())=some f∧Ns xs e f:=by
 refine nt xs.length (fun k x y=>x=(d,c,xs,((k:Nat):Int),())∧y=(xs,d,((List.length xs:Nat):Int),((k:Nat):Int),())) (Ns xs) ?_ ⟨rfl,rfl⟩
 rintro k x y hk ⟨rfl,rfl⟩
 by_cases bQ:k<xs.length
 ·have hm:(k+1) % xs.length<xs.length:=Nat.mod_lt _ (by omega);simp only [cU,jx,bB,dR,ax bQ,ak,cond_true,az,List.getElem?_eq_getElem bQ,Option.bind_some,aE (show k<4611686018427387904 by omega),Km,List.getElem?_eq_getElem hm,
   ai (show ¬((List.length xs:Nat):Int)=0 by omega),cond_false]
  by_cases hd:xs[k].1=d
  ·rw [af hd,af hd.symm];exact .inl ⟨.inr (xs[(k+1) % xs.length].1,()),.inr (((k:Nat):Int),()),rfl,rfl,k,xs[(k+1) % xs.length],rfl,bQ,List.getElem?_eq_getElem hm,rfl⟩
  ·rw [ai hd,ai (fun e=>hd e.symm)];exact .inr ⟨bQ,_,_,rfl,rfl,rfl,rfl⟩
 ·have:k=xs.length:=by omega
  subst this;exact .inl ⟨.inl (),.inl (),by simp only [cU,jx,aC,cond_false],by simp only [bB,dR,aC,cond_false],trivial⟩
theorem Mp (d:Int) (xs:List (Int×Unit)) (h:xs.length≤1048576):∃f,aG bB (xs,d,((List.length xs:Nat):Int),(0:Int),())=some f:=by
 obtain ⟨f,hf,_⟩:=dw (round:=bB) (x:=(xs,d,((List.length xs:Nat):Int),((0:Nat):Int),())) xs.length (fun k x=>x=(xs,d,((List.length xs:Nat):Int),((k:Nat):Int),())) (fun _=>True) (by
  rintro x rfl
  exact ⟨.inl (),by simp only [bB,dR,aC,cond_false],trivial⟩) (by
  rintro k x hk rfl
  simp only [bB,dR,ax hk,ak,cond_true,az,List.getElem?_eq_getElem hk,Option.bind_some,aE (show k<4611686018427387904 by omega)]
  cases decide (d=xs[k].1)
  ·exact .inr ⟨_,rfl,rfl⟩
  ·exact .inl ⟨_,rfl,trivial⟩) rfl
 exact ⟨f,hf⟩
theorem PB (c d:Int) (xs:List (Int×Unit)) (h:xs.length≤1048576):∃b,bX c xs d=some (b,())∧sW c xs d=some (b,()):=by
 obtain ⟨b,h1,h2,h3⟩:=Cm c xs h;unfold bX sW jz;rw [h1];simp only [Option.bind_some]
 cases b with
 |false=>
  obtain ⟨f,hf⟩:=Mp d xs h;rw [hf]
  cases f with
  |inl f=>exact ⟨0,rfl,rfl⟩
  |inr f=>
   refine ⟨0,rfl,?_⟩;simp only [bO,Option.bind_some,h2]
   cases decide (f.1<0)<;>rfl
 |true=>
  obtain ⟨l1,l2⟩:=h3 rfl;obtain ⟨e,f,g1,g2,g3⟩:=PA c d xs h l1;rw [g1,g2]
  cases e with
  |inl e=>cases f with
   |inl f=>exact ⟨0,rfl,rfl⟩
   |inr f=>exact g3.elim
  |inr e=>cases f with
   |inl f=>exact g3.elim
   |inr f=>
    obtain ⟨k,r,q1,q2,q3,q4⟩:=g3;refine ⟨e.1,rfl,?_⟩;simp only [bO,Option.bind_some,h2,q1,ai (show ¬((k:Nat):Int)<0 by omega),cond_false,Bool.not_true,ai (show ¬((List.length xs:Nat):Int)=0 by omega),
     aE (show k<4611686018427387904 by omega),Km,ak,cond_true,az,q3,q4]
end Go.TM
set_option linter.unusedSimpArgs false
set_option linter.unusedVariables false
namespace Go.TM
open Go
structure ko (n:Nat) (w:bt):Prop where
 ring:qt w.1 w.2.1
 len:w.2.2.1.length=w.2.1.length
 ids:∀k (hk:k<w.2.2.1.length) (hm:k<w.2.1.length),(w.2.2.1[k]).1=w.2.1[k].1
 pw:∀m∈w.2.2.1,pr m
 wv:w.2.2.2.1.length≤1048576+400*n
 po:∀f∈w.2.2.2.1,f.q.2.2.1.length≤1048576
 heard:w.2.2.2.2.1.length=w.2.1.length
 list:∀h∈w.2.2.2.2.1,h.1.length≤1048576+60*n
 said:w.q.1.length≤1048576+63*n
theorem fZ.x {n:Nat} {c:Int} {ms:dF} {w:bt} (h:fZ n c ms w):ko (n+1) w:=by
 obtain ⟨e1,e2⟩:=h.self;subst e1 e2;exact
 {
  ring:=h.ring
  len:=h.len
  ids:=h.ids
  pw:=fun m hm=>(h.pw m hm).1
  wv:=Nat.le_trans h.wv (Nat.le_add_left _ _)
  po:=fun f hf=>Nat.le_trans (h.Bn f hf).wv (by decide)
  heard:=h.heard
  list:=fun x hx=>Nat.le_trans (h.list x hx) (Nat.le_trans (Nat.mul_le_mul_left 60 (Nat.le_succ n)) (Nat.le_add_left _ _))
  said:=Nat.le_trans h.said.2 (Nat.le_trans (Nat.mul_le_mul_left 63 (Nat.le_succ n)) (Nat.le_add_left _ _)) }
theorem ko.Dp {n:Nat} {w:bt} (h:ko n w):w.2.1.length≤5∧w.2.2.1.length≤5∧1≤w.2.1.length:=by
 have:=h.ring.2.1;have:=h.len;omega
theorem ko.inj {n:Nat} {w:bt} (h:ko n w) {i j:Nat} (hi:i<w.2.2.1.length) (hj:j<w.2.2.1.length) (e:(w.2.2.1[i]).1=(w.2.2.1[j]).1):i=j:=by
 have UR:i<w.2.1.length:=by rw [←h.len];exact hi
 have JK:j<w.2.1.length:=by rw [←h.len];exact hj
 rw [h.ids i hi UR,h.ids j hj JK] at e;exact Io h.ring.2.2 UR JK e
theorem Mq (w:bt) (h:w.2.2.1.length≤1048576) (id:Int):∃a,gO w.1 w.2.1 w.2.2.1 w.2.2.2.1 w.2.2.2.2.1 w.q.1 id=some (a,w.1,w.2.1,w.2.2.1,w.2.2.2.1,w.2.2.2.2.1,w.q.1,())∧((a = -1∧∀k (hk:k<w.2.2.1.length),(w.2.2.1[k]).1≠id)∨∃k,∃hk:k<w.2.2.1.length,a=((k:Nat):Int)∧(w.2.2.1[k]).1=id):=by
 obtain ⟨e,he,hq⟩:=dw (round:=bU) (x:=(w.2.2.1,[([(id,())],())],((List.length w.2.2.1:Nat):Int),((0:Nat):Int),())) w.2.2.1.length (fun k x=>x=(w.2.2.1,[([(id,())],())],((List.length w.2.2.1:Nat):Int),((k:Nat):Int),())∧∀j (hj:j<w.2.2.1.length),j<k→(w.2.2.1[j]).1≠id)
  (fun e=>(e=.inl ()∧∀k (hk:k<w.2.2.1.length),(w.2.2.1[k]).1≠id)∨∃k,∃hk:k<w.2.2.1.length,e=.inr (((k:Nat):Int),())∧(w.2.2.1[k]).1=id) (by
   rintro x ⟨rfl,g⟩
   exact ⟨_,by simp only [bU,fM,aC,cond_false],.inl ⟨rfl,fun k hk=>g k hk hk⟩⟩) (by
   rintro k x hk ⟨rfl,g⟩
   simp only [bU,fM,mG,ax hk,ak,cond_true,az,List.getElem?_eq_getElem hk,List.getElem?_cons_zero,Option.bind_some,aE (show k<4611686018427387904 by omega)]
   by_cases e:(w.2.2.1[k]).1=id
   ·rw [af e];exact .inl ⟨_,rfl,.inr ⟨k,hk,rfl,e⟩⟩
   ·rw [ai e];refine .inr ⟨_,rfl,rfl,fun j hj x8 => ?_⟩
    by_cases e2:j<k
    ·exact g j hj e2
    ·have:j=k:=by omega
     subst this;exact e) ⟨rfl,fun j hj h=>by omega⟩
 have he:aG bU (w.2.2.1,[([(id,())],())],((List.length w.2.2.1:Nat):Int),(0:Int),())=some e:=he;unfold gO ib;rw [he];rcases hq with ⟨rfl,g⟩ | ⟨k,hk,rfl,g⟩
 ·exact ⟨_,rfl,.inl ⟨rfl,g⟩⟩
 ·exact ⟨_,rfl,.inr ⟨k,hk,rfl,g⟩⟩
theorem Nt {n:Nat} {w:bt} (h:ko n w) (id:Int):∃a,om w.1 w.2.1 w.2.2.1 w.2.2.2.1 w.2.2.2.2.1 w.q.1 id=some (a,w.1,w.2.1,w.2.2.1,w.2.2.2.1,w.2.2.2.2.1,w.q.1,())∧gO w.1 w.2.1 w.2.2.1 w.2.2.2.1 w.2.2.2.2.1 w.q.1 id=some (a,w.1,w.2.1,w.2.2.1,w.2.2.2.1,w.2.2.2.2.1,w.q.1,())∧((a = -1∧∀k (hk:k<w.2.2.1.length),(w.2.2.1[k]).1≠id)∨∃k,∃hk:k<w.2.2.1.length,a=((k:Nat):Int)∧(w.2.2.1[k]).1=id):=by
 have hl:=h.Dp.2.1;obtain ⟨a,e1,q1⟩:=Mk w (by omega) id;obtain ⟨b,e2,q2⟩:=Mq w (by omega) id;have hab:b=a:=by
  rcases q1 with ⟨rfl,g1⟩ | ⟨i,hi,rfl,g1⟩
  ·rcases q2 with ⟨rfl,_⟩ | ⟨j,hj,rfl,g2⟩
   ·rfl
   ·exact absurd g2 (g1 j hj)
  ·rcases q2 with ⟨rfl,g2⟩ | ⟨j,hj,rfl,g2⟩
   ·exact absurd g1 (g2 i hi)
   ·rw [h.inj hj hi (g2.trans g1.symm)]
 subst hab;exact ⟨b,e1,e2,q1⟩
def jI (ms:dF) (id:Int) (x:dn):List mh:=(ms.filter fun m => !decide (m.1=id)).map fun m=>(m.1,false,0,0,0,0,0,[],x.1,x.2.1,x.2.2.1,x.2.2.2.1,())
theorem FZ (ms:dF) (id:Int) (x:dn) {k:Nat} (hk:k<ms.length):jI (ms.take (k+1)) id x=jI (ms.take k) id x++(bif !decide (ms[k].1=id) then [(ms[k].1,false,0,0,0,0,0,[],x.1,x.2.1,x.2.2.1,x.2.2.2.1,())] else []):=by
 unfold jI;rw [List.take_succ_eq_append_getElem hk,List.filter_append,List.map_append,List.filter_cons]
 cases decide (ms[k].1=id)<;>rfl
theorem Ir (ms:dF) (id:Int) (x:dn):(jI ms id x).length≤ms.length:=by
 unfold jI;rw [List.length_map];exact List.length_filter_le _ _
theorem Ko (x:dn) (id:Int) (mt:List eb):gG mt id x=((mt.map (·.1)).filter fun i => !decide (i=id)).map fun i=>(i,false,0,0,0,0,0,[],x.1,x.2.1,x.2.2.1,x.2.2.2.1,()):=by
 unfold gG
 induction mt with
 |nil=>rfl
 |cons m mt ih=>
  rw [List.filter_cons,List.map_cons,List.filter_cons]
  cases decide (m.1=id)<;>simp_all
theorem Is (x:dn) (id:Int) (ms:dF):jI ms id x=((ms.map (·.1)).filter fun i => !decide (i=id)).map fun i=>(i,false,0,0,0,0,0,[],x.1,x.2.1,x.2.2.1,x.2.2.2.1,()):=by
 unfold jI
 induction ms with
 |nil=>rfl
 |cons m ms ih=>
  rw [List.filter_cons,List.map_cons,List.filter_cons]
  cases decide (m.1=id)<;>simp_all
theorem Sv {w:bt} (hl:w.2.2.1.length=w.2.1.length) (hi:∀k (hk:k<w.2.2.1.length) (hm:k<w.2.1.length),(w.2.2.1[k]).1=w.2.1[k].1) (id:Int) (x:dn):jI w.2.1 id x=gG w.2.2.1 id x:=by
 rw [Ko,Is];have:w.2.1.map (·.1)=w.2.2.1.map (·.1):=by
  apply List.ext_getElem
  ·rw [List.length_map,List.length_map,hl]
  ·intro k h1 h2;rw [List.length_map] at h1 h2;rw [List.getElem_map,List.getElem_map];exact (hi k h2 h1).symm
 rw [this]
theorem Db (w:bt) (id:Int) (l:aS) (hl:w.2.2.1.length=w.2.1.length) (hi:∀k (hk:k<w.2.2.1.length) (hm:k<w.2.1.length),(w.2.2.1[k]).1=w.2.1[k].1) (h1:w.2.1.length≤5) (h2:w.2.2.2.1.length≤1073741824) (h3:l.length≤1048576):eP w.1 w.2.1 w.2.2.1 w.2.2.2.1 w.2.2.2.2.1 w.q.1 id l=some (w.1,w.2.1,w.2.2.1,w.2.2.2.1++de w.2.2.1 id l,w.2.2.2.2.1,w.q.1,()):=by
 have inner:∀(fl:List mh) (i:Nat) (UO:i<l.length),fl.length≤2147483648→aG dx (w.1,w.2.1,w.2.2.1,fl,w.2.2.2.2.1,w.q.1,id,(l[i]).1,(l[i]).2.1,(l[i]).2.2.1,(l[i]).2.2.2.1,l,((List.length l:Nat):Int),((i:Nat):Int),((List.length w.2.1:Nat):Int),(0:Int),())=some (.inl (w.1,w.2.1,w.2.2.1,fl++gG w.2.2.1 id l[i],w.2.2.2.2.1,w.q.1,id,l,((List.length l:Nat):Int),((i:Nat):Int),())):=by
  intro fl i UO hf;have l1:=bD (round:=dx) (e:=.inl (w.1,w.2.1,w.2.2.1,fl++jI w.2.1 id l[i],w.2.2.2.2.1,w.q.1,id,l,((List.length l:Nat):Int),((i:Nat):Int),())) w.2.1.length (fun k=>(w.1,w.2.1,w.2.2.1,fl++jI (w.2.1.take k) id l[i],w.2.2.2.2.1,w.q.1,id,(l[i]).1,(l[i]).2.1,(l[i]).2.2.1,(l[i]).2.2.2.1,l,((List.length l:Nat):Int),((i:Nat):Int),((List.length w.2.1:Nat):Int),((k:Nat):Int),())) (by
   simp only [dx,lu,aC,cond_false,List.take_length]) (fun k hk=>by
   have hb:Nat.ble (((fl++jI (w.2.1.take k) id l[i]).length+1)*120) lim=true:=aJ (by
    have:=Ir (w.2.1.take k) id l[i];rw [List.length_take] at this;rw [List.length_append];unfold lim;omega)
   rw [FZ w.2.1 id l[i] hk];simp only [dx,lu,ax hk,ak,cond_true,az,cS hk,List.getElem?_eq_getElem hk,Option.bind_some,aE (show k<4611686018427387904 by omega),hb]
   cases decide ((w.2.1[k]).1=id)
   ·simp only [Bool.not_false,cond_true,List.append_assoc]
   ·simp only [Bool.not_true,cond_false,List.append_nil])
  have l1:aG dx (w.1,w.2.1,w.2.2.1,fl++jI (w.2.1.take 0) id l[i],w.2.2.2.2.1,w.q.1,id,(l[i]).1,(l[i]).2.1,(l[i]).2.2.1,(l[i]).2.2.2.1,l,((List.length l:Nat):Int),((i:Nat):Int),((List.length w.2.1:Nat):Int),(0:Int),())=_:=l1;rw [show jI (w.2.1.take 0) id l[i]=[] from rfl,List.append_nil,Sv hl hi] at l1;exact l1
 have l2:=bD (round:=dy) (e:=.inl (w.1,w.2.1,w.2.2.1,w.2.2.2.1++de w.2.2.1 id l,w.2.2.2.2.1,w.q.1,())) l.length (fun k=>(w.1,w.2.1,w.2.2.1,w.2.2.2.1++de w.2.2.1 id (l.take k),w.2.2.2.2.1,w.q.1,id,l,((List.length l:Nat):Int),((k:Nat):Int),())) (by
  simp only [dy,lx,aC,cond_false,List.take_length]) (fun k hk=>by
  have hln:=mZ w.2.2.1 id 5 (by omega) (l.take k);rw [List.length_take] at hln;have Dh:=inner (w.2.2.2.1++de w.2.2.1 id (l.take k)) k hk (by rw [List.length_append];omega);rw [Fj w.2.2.1 id l hk];simp only [dy,lx,ax hk,ak,cond_true,az,List.getElem?_eq_getElem hk,Option.bind_some];rw [Dh];simp only [dZ,aE (show k<4611686018427387904 by omega),List.append_assoc])
 have l2:aG dy (w.1,w.2.1,w.2.2.1,w.2.2.2.1++de w.2.2.1 id (l.take 0),w.2.2.2.2.1,w.q.1,id,l,((List.length l:Nat):Int),(0:Int),())=_:=l2;rw [show de w.2.2.1 id (l.take 0)=[] from rfl,List.append_nil] at l2;have l2:aG dy (w.1,w.2.1,w.2.2.1,w.2.2.2.1,w.2.2.2.2.1,w.q.1,id,l,((List.length l:Nat):Int),(0:Int),())=_:=l2;unfold eP;rw [l2];rfl
end Go.TM
set_option linter.unusedSimpArgs false
set_option linter.unusedVariables false
namespace Go.TM
open Go
theorem Kp (w:bt) (id:Int) (t:kY) (h1:w.2.1.length≤1048576) (h2:w.2.2.2.1.length≤2147483648) (h3:t.q.1.length≤1048576):ic w.1 w.2.1 w.2.2.1 w.2.2.2.1 w.2.2.2.2.1 w.q.1 id t.1 t.2.1 t.2.2.1 t.2.2.2.1 t.2.2.2.2.1 t.q.1=some ((iV w (w.2.2.2.1++[ff (il w.1 w.2.1 id) t])).1,(iV w (w.2.2.2.1++[ff (il w.1 w.2.1 id) t])).2.1,(iV w (w.2.2.2.1++[ff (il w.1 w.2.1 id) t])).2.2.1,(iV w (w.2.2.2.1++[ff (il w.1 w.2.1 id) t])).2.2.2.1,(iV w (w.2.2.2.1++[ff (il w.1 w.2.1 id) t])).2.2.2.2.1,(iV w (w.2.2.2.1++[ff (il w.1 w.2.1 id) t])).q.1,()):=by
 obtain ⟨b,n1,n2⟩:=PB w.1 id w.2.1 h1;have hb:il w.1 w.2.1 id=b:=by unfold il;rw [n1]
 unfold ic;simp only [n2,(gF t.1 t.2.1 t.2.2.1 t.2.2.2.1 t.2.2.2.2.1 t.q.1 h3).2,Option.bind_some,aJ (show (w.2.2.2.1.length+1)*120≤lim by unfold lim;omega),cond_true,hb];rfl
theorem UG (m:eb) (h:m.2.2.2.1.length≤1048576):oU m.1 m.2.1 m.2.2.1 m.2.2.2.1 m.2.2.2.2.1 m.q.1 m.q.2.1 m.q.2.2.1 m.q.2.2.2.1 m.q.2.2.2.2.1 m.q.q.1 m.q.q.2.1 m.q.q.2.2.1 m.q.q.2.2.2.1 m.q.q.2.2.2.2.1 m.q.q.q.1=some (Fl m,()):=by
 have l1:=bD (round:=gP) (e:=.inl (Fl m,())) m.2.2.2.1.length (fun i=>(m.1,m.2.1,m.2.2.1,m.2.2.2.1,m.2.2.2.2.1,m.q.1,m.q.2.1,m.q.2.2.1,m.q.2.2.2.1,m.q.2.2.2.2.1,m.q.q.1,m.q.q.2.1,m.q.q.2.2.1,m.q.q.2.2.2.1,m.q.q.2.2.2.2.1,m.q.q.q.1,(m.2.2.2.1.take i).filter (fun x=>decide (x.2.1=m.1)),m.2.2.2.1,((List.length m.2.2.2.1:Nat):Int),((i:Nat):Int),())) (by
  simp only [gP,oz,aC,cond_false,List.take_length];rfl) (fun i hi=>by
  have hb:Nat.ble ((((m.2.2.2.1.take i).filter (fun x=>decide (x.2.1=m.1))).length+1)*40) lim=true:=aJ (by
   have:=List.length_filter_le (fun x:dn=>decide (x.2.1=m.1)) (m.2.2.2.1.take i);rw [List.length_take] at this;unfold lim;omega)
  rw [List.take_succ_eq_append_getElem hi,List.filter_append,List.filter_cons];simp only [gP,oz,ax hi,ak,cond_true,az,List.getElem?_eq_getElem hi,Option.bind_some,aE (show i<4611686018427387904 by omega),hb]
  by_cases e:(m.2.2.2.1[i]).2.1=m.1
  ·rw [af e];rfl
  ·rw [ai e];simp only [cond_false];rw [if_neg (by decide)];simp)
 have l1:aG gP (m.1,m.2.1,m.2.2.1,m.2.2.2.1,m.2.2.2.2.1,m.q.1,m.q.2.1,m.q.2.2.1,m.q.2.2.2.1,m.q.2.2.2.2.1,m.q.q.1,m.q.q.2.1,m.q.q.2.2.1,m.q.q.2.2.2.1,m.q.q.2.2.2.2.1,m.q.q.q.1,[],m.2.2.2.1,((List.length m.2.2.2.1:Nat):Int),(0:Int),())=_:=l1;unfold oU;rw [l1];rfl
theorem ko.up {n n':Nat} {w:bt} (h:ko n w) (hn:n≤n'):ko n' w:=
 {
  h with
  wv:=Nat.le_trans h.wv (Nat.add_le_add_left (Nat.mul_le_mul_left _ hn) _)
  list:=fun x hx=>Nat.le_trans (h.list x hx) (Nat.add_le_add_left (Nat.mul_le_mul_left _ hn) _)
  said:=Nat.le_trans h.said (Nat.add_le_add_left (Nat.mul_le_mul_left _ hn) _) }
theorem ko.px {n:Nat} {w:bt} (h:ko n w) {k:Nat} (hk:k<w.2.2.1.length) {m:eb} (hm:pr m) (h1:m.1=(w.2.2.1[k]).1):ko n (pt w k m):=
 {
  ring:=h.ring
  len:=by show (w.2.2.1.set k m).length=_;rw [List.length_set];exact h.len
  ids:=fun j hj zW=>by
   have hj:j<(w.2.2.1.set k m).length:=hj;show ((w.2.2.1.set k m)[j]).1=_;rw [List.getElem_set];rw [List.length_set] at hj
   split
   ·rename_i e;subst e;rw [h1];exact h.ids k hk zW
   ·exact h.ids j hj zW
  pw:=fun x hx=>by
   have hx:x∈w.2.2.1.set k m:=hx;rcases List.mem_or_eq_of_mem_set hx with hx | rfl
   ·exact h.pw x hx
   ·exact hm
  wv:=h.wv
  po:=h.po
  heard:=h.heard
  list:=h.list
  said:=h.said }
theorem ko.Bo {n:Nat} {w:bt} (h:ko n w) {l:List mh} (h1:∀f∈l,f.q.2.2.1.length≤1048576) (h2:l.length≤1048576+400*n):ko n (iV w l):=
 { ring:=h.ring,len:=h.len,ids:=h.ids,pw:=h.pw,wv:=h2,po:=h1,heard:=h.heard,list:=h.list,said:=h.said }
theorem Sw {m:eb} (hm:pr m):(ie m).q.1.length≤20:=by
 rcases hm.last with q | q
 ·have:(ie m).q.1=[]:=q.2.2.2.2.2;rw [this];exact Nat.zero_le _
 ·exact q.q.1
theorem Kq {ms:List eb} {id:Int} {l:aS}:∀f∈de ms id l,f.q.2.2.1.length≤1048576:=by
 intro f hf;obtain ⟨m,_,x,hx,_,rfl⟩:=xY hf;exact Nat.zero_le _
noncomputable def afs (w:bt) (k:Nat) (f:mh) (m':eb) (said:aS) (nx:kY):bt:=
 let w2:=eV (pt w k m') f said
 iV (iV w2 (w2.2.2.2.1++de w2.2.2.1 f.1 said)) ((w2.2.2.2.1++de w2.2.2.1 f.1 said)++[ff (il w2.1 w2.2.1 f.1) nx])
inductive Came (w:bt) (f:mh):bt→Prop where
 |no:Came w f w
 |Sx (k:Nat) (hk:k<w.2.2.1.length) (yw:(w.2.2.1[k]).1=f.1) (ht:f.2.1=false):Came w f (pt w k (qg w.2.2.1[k] (f.q.2.2.2.1,f.q.2.2.2.2.1,f.q.q.1,f.q.q.2.1,())))
 |held (k:Nat) (hk:k<w.2.2.1.length) (yw:(w.2.2.1[k]).1=f.1) (ht:f.2.1=true) (m':eb) (said:aS) (j:Nat) (nx:kY) (hT:Cn (f.2.2.1,f.2.2.2.1,f.2.2.2.2.1,f.q.1,f.q.2.1,f.q.2.2.1,())) (hr:(w.2.2.1[k]).q.2.1<f.2.2.2.1) (H:Uz w.2.2.1[k] (f.2.2.1,f.2.2.2.1,f.2.2.2.2.1,f.q.1,f.q.2.1,f.q.2.2.1,()) m' said j nx):Came w f (afs w k f m' said nx)
def ZV (w:bt) (k:Nat) (m':eb) (l:aS):bt:=ZR (pt w k m') (w.2.2.2.2.1.set k (l,()))
inductive Step (w:bt) (e:Bq):bt→Prop where
 |same:Step w e w
 |ZU (k:Nat) (hk:k<w.2.2.1.length) (yw:(w.2.2.1[k]).1=e.2.1) (h1:e.1=1):Step w e (pt w k (Fi w.2.2.1[k] e.2.2.2.1 e.2.2.2.2.1))
 |aft (k:Nat) (hk:k<w.2.2.1.length) (nk:k<w.2.2.2.2.1.length) (j:Nat) (hj:(w.2.2.1[k]).q.2.2.2.2.1+((j:Nat):Int)≤((dB (w.2.2.1[k]).2.2.2.1:Nat):Int))
   (hw:∀i,i<j→¬yD (w.2.2.1[k]).2.2.2.1 (w.2.2.1[k]).q.2.2.2.1 ((w.2.2.1[k]).q.2.2.2.2.1+((i+1:Nat):Int))):Step w e (ZV w k (Cs w.2.2.1[k] ((w.2.2.1[k]).q.2.2.2.2.1+((j:Nat):Int))) ((w.2.2.2.2.1[k]).1++ji (w.2.2.1[k]).2.2.2.1 (w.2.2.1[k]).q.2.2.2.2.1 j))
 |again (k:Nat) (hk:k<w.2.2.1.length) (hb:¬Blank (ie w.2.2.1[k])):Step w e (tu w w.2.2.1[k])
 |dup (j:Nat) (hj:j<w.2.2.2.1.length):Step w e (iV w (w.2.2.2.1++[w.2.2.2.1[j]]))
 |drop (j:Nat) (hj:j<w.2.2.2.1.length):Step w e (iV w (w.2.2.2.1.take j++w.2.2.2.1.drop (j+1)))
 |afu (j:Nat) (hj:j<w.2.2.2.1.length) (w':bt) (h:Came (iV w (w.2.2.2.1.take j++w.2.2.2.1.drop (j+1))) w.2.2.2.1[j] w'):Step w e w'
theorem Mr {n:Nat} {w:bt} (e:Bq) (h:ko n w) (hn:n≤1000000) {k:Nat} (hk:k<w.2.2.1.length):∃a w',kz w.1 w.2.1 w.2.2.1 w.2.2.2.1 w.2.2.2.2.1 w.q.1 ((k:Nat):Int)=some (a,w'.1,w'.2.1,w'.2.2.1,w'.2.2.2.1,w'.2.2.2.2.1,w'.q.1,())∧mr w.1 w.2.1 w.2.2.1 w.2.2.2.1 w.2.2.2.2.1 w.q.1 ((k:Nat):Int)=some (a,w'.1,w'.2.1,w'.2.2.1,w'.2.2.2.1,w'.2.2.2.2.1,w'.q.1,())∧ko (n+1) w'∧Step w e w':=by
 obtain ⟨q0,q1,q2⟩:=h.Dp;have hm:=h.pw _ (List.getElem_mem hk);have hi:=(cm _ hm.items).1;have hf:=h.wv;have hl:=Sw hm;have hl:(w.2.2.1[k]).q.q.q.1.length≤20:=hl;rw [Ha w hk q1 (by omega) (by omega) (by omega) (by omega)];unfold mr;have z:dm (w.2.2.1[k]).q.q.1 (w.2.2.1[k]).q.q.2.1 (w.2.2.1[k]).q.q.2.2.1 (w.2.2.1[k]).q.q.2.2.2.1 (w.2.2.1[k]).q.q.2.2.2.2.1 (w.2.2.1[k]).q.q.q.1=some (oG (ie w.2.2.1[k]),()):=(sq (ie w.2.2.1[k])).2.1;simp only [ak,az,cS hk,List.getElem?_eq_getElem hk,Option.bind_some,cond_true,z]
 cases hbl:oG (ie w.2.2.1[k])
 ·have p1:ic w.1 w.2.1 w.2.2.1 w.2.2.2.1 w.2.2.2.2.1 w.q.1 (w.2.2.1[k]).1 (w.2.2.1[k]).q.q.1 (w.2.2.1[k]).q.q.2.1 (w.2.2.1[k]).q.q.2.2.1 (w.2.2.1[k]).q.q.2.2.2.1 (w.2.2.1[k]).q.q.2.2.2.2.1 (w.2.2.1[k]).q.q.q.1=_:=Kp w (w.2.2.1[k]).1 (ie w.2.2.1[k]) (by omega) (by omega) (show (ie w.2.2.1[k]).q.1.length≤1048576 from by have:(ie w.2.2.1[k]).q.1.length≤20:=hl;omega);have p2:=UG w.2.2.1[k] (by omega);have Ft:(Fl w.2.2.1[k]).length≤60:=Nat.le_trans (List.length_filter_le _ _) hi;have p3:=Db (iV w (w.2.2.2.1++[ff (il w.1 w.2.1 (w.2.2.1[k]).1) (ie w.2.2.1[k])])) (w.2.2.1[k]).1 (Fl w.2.2.1[k]) h.len h.ids q0 (by show (w.2.2.2.1++[_]).length≤_;rw [List.length_append,List.length_singleton];omega) (by omega);refine ⟨0,tu w w.2.2.1[k],rfl,?_,(h.up (Nat.le_succ n)).Bo (fun f SU => ?_) ?_,.again k hk fun q=>by rw [(sq (ie w.2.2.1[k])).2.2.2 q] at hbl;cases hbl⟩
  ·simp only [cond_false,p1,p2,Option.bind_some];rw [p3];rfl
  ·rcases List.mem_append.1 SU with SU | SU
   ·rcases List.mem_append.1 SU with SU | SU
    ·exact h.po f SU
    ·rw [List.mem_singleton] at SU;subst SU;show (ie w.2.2.1[k]).q.1.length≤1048576;have:(ie w.2.2.1[k]).q.1.length≤20:=hl;omega
   ·exact Kq f SU
  ·have h1:=mZ w.2.2.1 (w.2.2.1[k]).1 5 q1 (Fl w.2.2.1[k]);rw [List.length_append,List.length_append,List.length_singleton];omega
 ·exact ⟨1,w,rfl,rfl,h.up (Nat.le_succ n),.same⟩
theorem PC {n:Nat} {w:bt} (e:Bq) (h:ko n w) (hn:n≤1000000) {k:Nat} (hk:k<w.2.2.1.length):∃w',lI w.1 w.2.1 w.2.2.1 w.2.2.2.1 w.2.2.2.2.1 w.q.1 ((k:Nat):Int)=some (w'.1,w'.2.1,w'.2.2.1,w'.2.2.2.1,w'.2.2.2.2.1,w'.q.1,())∧nF w.1 w.2.1 w.2.2.1 w.2.2.2.1 w.2.2.2.2.1 w.q.1 ((k:Nat):Int)=some (w'.1,w'.2.1,w'.2.2.1,w'.2.2.2.1,w'.2.2.2.2.1,w'.q.1,())∧ko (n+1) w'∧Step w e w':=by
 obtain ⟨q0,q1,q2⟩:=h.Dp;have hm:=h.pw _ (List.getElem_mem hk);have hl:=h.len;have hh:=h.heard;have nk:k<w.2.2.2.2.1.length:=by omega
 obtain ⟨j,m',rfl,p1,p2,p3,p4,p5,_⟩:=Nr hm;have ha:=(zT (w.2.2.1[k]).2.2.2.1 (Nat.le_trans (cm _ hm.items).1 (by decide))).2.2.1;have hi:=(cm _ hm.items).1;have hg:=hm.heard;have hj:j≤60:=by omega
 have hx:=h.list _ (List.getElem_mem nk);refine ⟨ZR (pt w k _) (w.2.2.2.2.1.set k ((w.2.2.2.2.1[k]).1++ji (w.2.2.1[k]).2.2.2.1 (w.2.2.1[k]).q.2.2.2.2.1 j,())),?_,?_,?_,.aft k hk nk j p4 p5⟩
 ·have h1:=pv w (by omega) hk (Cs w.2.2.1[k] ((w.2.2.1[k]).q.2.2.2.2.1+((j:Nat):Int)));unfold lI;simp only [ak,cond_true,az,List.getElem?_eq_getElem hk,Option.bind_some,p2,h1];show (bif Nat.ble ((0+w.2.2.2.2.1.length)*24) lim then _ else none)=_;simp only [pt,aJ (show (0+w.2.2.2.2.1.length)*24≤lim by unfold lim;omega),cond_true,List.nil_append,cS nk,List.getElem?_eq_getElem nk,Option.bind_some,aJ (show (0+(w.2.2.2.2.1[k]).1.length)*40≤lim by unfold lim;omega),oH,aJ (show ((w.2.2.2.2.1[k]).1.length+j)*40≤lim by unfold lim;omega)];rfl
 ·unfold nF
  try simp only [cX]
  simp only [ak,cond_true,az,cS hk,List.getElem?_eq_getElem hk,Option.bind_some,p1,ax nk,cS nk,List.getElem?_eq_getElem nk,oH,aJ (show ((w.2.2.2.2.1[k]).1.length+j)*40≤lim by unfold lim;omega),Nat.beq_refl];rfl
 ·have h2:=(h.px hk p3 rfl).up (Nat.le_succ n);exact
  {
   ring:=h2.ring,len:=h2.len,ids:=h2.ids,pw:=h2.pw,wv:=h2.wv,po:=h2.po,said:=h2.said
   heard:=by show (w.2.2.2.2.1.set k _).length=_;rw [List.length_set];exact hh
   list:=fun x py=>by
    have py:x∈w.2.2.2.2.1.set k _:=py;rcases List.mem_or_eq_of_mem_set py with py | rfl
    ·exact h2.list x py
    ·show ((w.2.2.2.2.1[k]).1++ji _ _ j).length≤_;rw [List.length_append,oH];omega }
theorem Sy {m:eb} (hm:pr m) (x:dn):pr (qg m x)∧(qg m x).1=m.1:=by
 cases hx:yC x
 ·have hc:qg m x=m:=by
   unfold qg Pt;rw [hx]
   cases xy m<;>cases so m.2.2.2.1<;>rfl
  rw [hc];exact ⟨hm,rfl⟩
 ·have hq:=(Bi x).2.2.1 hx;rw [Hc hm hq];exact ⟨Fo hm hq,rfl⟩
theorem PD {m:eb} {t:kY} {m':eb} {said:aS} {j:Nat} {nx:kY} (H:Uz m t m' said j nx) (hT:Cn t) {f:mh} (Kz:(f.2.2.1,f.2.2.2.1,f.2.2.2.2.1,f.q.1,f.q.2.1,f.q.2.2.1,())=t):sC f said=said.drop (said.length-j):=by
 have hs:f.2.2.2.2.1=t.2.2.1:=by rw [←Kz]
 have h1:∀x∈s7 t m.2.2.2.1,¬t.2.2.1<x.1:=fun x hx=>by
  have hw:=(List.mem_filter.1 hx).2;rw [decide_eq_true_eq] at hw;unfold bm at hw;obtain ⟨y,hy,e⟩:=List.mem_map.1 hw;obtain ⟨k,hk,rfl⟩:=List.mem_iff_getElem.1 hy;have:=(hT.q.2 k hk hk).2.1;omega
 have h2:∀x∈dL t.2.2.1 m.1 m.2.2.2.2.1 m.q.1 j,t.2.2.1<x.1:=fun x hx=>by
  obtain ⟨i,hi,rfl⟩:=vM hx;show t.2.2.1<t.2.2.1+((i+1:Nat):Int);omega
 unfold sC;rw [hs,H.said,List.filter_append,List.length_append,j3,Nat.add_sub_cancel,List.drop_left,List.filter_eq_nil_iff.2 (fun x hx=>by rw [decide_eq_true_eq];exact h1 x hx),List.nil_append,List.filter_eq_self.2 (fun x hx=>decide_eq_true (h2 x hx))]
theorem Ms (w:bt) (f:mh) (l:aS) (t:kY) (h1:w.q.1.length≤1073741824) (h2:l.length≤1048576):aG cq (w.1,w.2.1,w.2.2.1,w.2.2.2.1,w.2.2.2.2.1,w.q.1,f.1,f.2.1,f.2.2.1,f.2.2.2.1,f.2.2.2.2.1,f.q.1,f.q.2.1,f.q.2.2.1,f.q.2.2.2.1,f.q.2.2.2.2.1,f.q.q.1,f.q.q.2.1,l,t.1,t.2.1,t.2.2.1,t.2.2.2.1,t.2.2.2.2.1,t.q.1,(0:Int),())=some (.inl ((eV w f l).1,(eV w f l).2.1,(eV w f l).2.2.1,(eV w f l).2.2.2.1,(eV w f l).2.2.2.2.1,(eV w f l).q.1,f.1,f.2.1,f.2.2.1,f.2.2.2.1,f.2.2.2.2.1,f.q.1,f.q.2.1,f.q.2.2.1,f.q.2.2.2.1,f.q.2.2.2.2.1,f.q.q.1,f.q.q.2.1,l,t.1,t.2.1,t.2.2.1,t.2.2.2.1,t.2.2.2.2.1,t.q.1,())):=by
 have l1:=bD (round:=cq) (e:=.inl ((eV w f l).1,(eV w f l).2.1,(eV w f l).2.2.1,(eV w f l).2.2.2.1,(eV w f l).2.2.2.2.1,(eV w f l).q.1,f.1,f.2.1,f.2.2.1,f.2.2.2.1,f.2.2.2.2.1,f.q.1,f.q.2.1,f.q.2.2.1,f.q.2.2.2.1,f.q.2.2.2.2.1,f.q.q.1,f.q.q.2.1,l,t.1,t.2.1,t.2.2.1,t.2.2.2.1,t.2.2.2.2.1,t.q.1,())) l.length (fun k=>((eV w f (l.take k)).1,(eV w f (l.take k)).2.1,(eV w f (l.take k)).2.2.1,(eV w f (l.take k)).2.2.2.1,(eV w f (l.take k)).2.2.2.2.1,(eV w f (l.take k)).q.1,f.1,f.2.1,f.2.2.1,f.2.2.2.1,f.2.2.2.2.1,f.q.1,f.q.2.1,f.q.2.2.1,f.q.2.2.2.1,f.q.2.2.2.2.1,f.q.q.1,f.q.q.2.1,l,t.1,t.2.1,t.2.2.1,t.2.2.2.1,t.2.2.2.2.1,t.q.1,((k:Nat):Int),())) (by
  simp only [cq,kg,aC,cond_false,List.take_length]) (fun k hk=>by
  have hl:=Bp f (l.take k);rw [List.length_take] at hl;have K5:Nat.ble ((0+(w.q.1++sC f (l.take k)).length)*40) lim=true:=aJ (by rw [List.length_append];unfold lim;omega);have Jg:Nat.ble (((w.q.1++sC f (l.take k)).length+1)*40) lim=true:=aJ (by rw [List.length_append];unfold lim;omega);have e:sC f (l.take (k+1))=sC f (l.take k)++(if decide (f.2.2.2.2.1<(l[k]).1)=true then [l[k]] else []):=by
   unfold sC;rw [List.take_succ_eq_append_getElem hk,List.filter_append,List.filter_cons,List.filter_nil]
  simp only [eV,ZS,e,cq,kg,ax hk,cS hk,ak,cond_true,az,List.getElem?_eq_getElem hk,Option.bind_some,aE (show k<4611686018427387904 by omega),K5,Jg,List.nil_append,cX]
  by_cases e:f.2.2.2.2.1<(l[k]).1
  ·rw [af e,if_pos rfl,←List.append_assoc];rfl
  ·rw [ai e,if_neg (by decide)];simp only [cond_false];rw [List.append_nil])
 have l1:aG cq ((eV w f (l.take 0)).1,(eV w f (l.take 0)).2.1,(eV w f (l.take 0)).2.2.1,(eV w f (l.take 0)).2.2.2.1,(eV w f (l.take 0)).2.2.2.2.1,(eV w f (l.take 0)).q.1,f.1,f.2.1,f.2.2.1,f.2.2.2.1,f.2.2.2.2.1,f.q.1,f.q.2.1,f.q.2.2.1,f.q.2.2.2.1,f.q.2.2.2.2.1,f.q.q.1,f.q.q.2.1,l,t.1,t.2.1,t.2.2.1,t.2.2.2.1,t.2.2.2.2.1,t.q.1,(0:Int),())=_:=l1;have e0:eV w f (l.take 0)=w:=by unfold eV;rw [show sC f (l.take 0)=[] from rfl,List.append_nil];rfl
 rwa [e0] at l1
theorem PE {n:Nat} {w:bt} (h:ko n w) (hn:n≤1000000) (f:mh) (hf:f.q.2.2.1.length≤1048576):∃a w',iR w.1 w.2.1 w.2.2.1 w.2.2.2.1 w.2.2.2.2.1 w.q.1 f.1 f.2.1 f.2.2.1 f.2.2.2.1 f.2.2.2.2.1 f.q.1 f.q.2.1 f.q.2.2.1 f.q.2.2.2.1 f.q.2.2.2.2.1 f.q.q.1 f.q.q.2.1=some (a,w'.1,w'.2.1,w'.2.2.1,w'.2.2.2.1,w'.2.2.2.2.1,w'.q.1,())∧ly w.1 w.2.1 w.2.2.1 w.2.2.2.1 w.2.2.2.2.1 w.q.1 f.1 f.2.1 f.2.2.1 f.2.2.2.1 f.2.2.2.2.1 f.q.1 f.q.2.1 f.q.2.2.1 f.q.2.2.2.1 f.q.2.2.2.2.1 f.q.q.1 f.q.q.2.1=some (a,w'.1,w'.2.1,w'.2.2.1,w'.2.2.2.1,w'.2.2.2.2.1,w'.q.1,())∧ko (n+1) w'∧Came w f w':=by
 obtain ⟨q0,q1,q2⟩:=h.Dp;have ZT:=h.wv;obtain ⟨a,e1,i1,hq⟩:=Nt h f.1;unfold iR ly
 try simp only [cX]
 simp only [e1,i1,Option.bind_some];rcases hq with ⟨rfl,_⟩ | ⟨k,hk,rfl,yw⟩
 ·exact ⟨1,w,rfl,rfl,h.up (Nat.le_succ n),.no⟩
 have hm:=h.pw _ (List.getElem_mem hk);have hi:=(cm _ hm.items).1;have hw:=hm.small;simp only [ai (show ¬((k:Nat):Int)<0 by omega),cond_false,ak,cond_true,az,cS hk,List.getElem?_eq_getElem hk,Option.bind_some]
 cases ht:f.2.1
 ·obtain ⟨e2,i2⟩:=E8 w.2.2.1[k] (f.q.2.2.2.1,f.q.2.2.2.2.1,f.q.q.1,f.q.q.2.1,()) (Nat.le_trans hw (by decide));obtain ⟨c1,c2⟩:=Sy hm (f.q.2.2.2.1,f.q.2.2.2.2.1,f.q.q.1,f.q.q.2.1,());have e3:=pv w (by omega) hk (qg w.2.2.1[k] (f.q.2.2.2.1,f.q.2.2.2.2.1,f.q.q.1,f.q.q.2.1,()));refine ⟨0,pt w k (qg w.2.2.1[k] (f.q.2.2.2.1,f.q.2.2.2.2.1,f.q.q.1,f.q.q.2.1,())),?_,?_,(h.px hk c1 c2).up (Nat.le_succ n),.Sx k hk yw ht⟩
  ·simp only [Bool.not_false,cond_true];rw [e2];simp only [Option.bind_some];rw [e3];rfl
  ·simp only [Bool.not_false,cond_true];rw [i2];rfl
 ·simp only [Bool.not_true,cond_false];generalize ht':((f.2.2.1,f.2.2.2.1,f.2.2.2.2.1,f.q.1,f.q.2.1,f.q.2.2.1,()):kY)=t;have Kz:(f.2.2.1,f.2.2.2.1,f.2.2.2.2.1,f.q.1,f.q.2.1,f.q.2.2.1,())=t:=ht';have hwt:t.q.1.length≤1048576:=by rw [←Kz];exact hf
  cases hh:G9 w.2.2.1[k] t
  ·obtain ⟨i2,e2⟩:=Np w.2.2.1[k] t (Nat.le_trans hw (by decide)) hwt hh;subst Kz;rw [e2,i2];exact ⟨1,w,rfl,rfl,h.up (Nat.le_succ n),.no⟩
  ·unfold G9 at hh;simp only [Bool.and_eq_true,decide_eq_true_eq] at hh;have hT:=(Co t hwt).2.2.1 hh.2.1;obtain ⟨m',said,j,nx,H,i2,e2⟩:=No w.2.2.1[k] t hm hT hh.2.2.1 hh.2.2.2.1 hh.2.2.2.2;have hlen:said.length≤63:=by
    rw [H.said,List.length_append,j3];have:=Ff t (w.2.2.1[k]).2.2.2.1;have:=H.wv.1;omega
   have Wu:j≤said.length:=by rw [H.said,List.length_append,j3];omega
   have hs:=h.said;have e3:=pv w (by omega) hk m';have hW:=h.px hk H.nq H.id.1;have SJ:=PD H hT Kz;have PL:=Bp f said;have e4:=Ms (pt w k m') f said nx (by show w.q.1.length≤_;omega) (by omega);generalize IE:eV (pt w k m') f said=w2 at e4;have p1:w2.2.2.1=w.2.2.1.set k m':=by rw [←IE];rfl
   have p2:w2.2.2.2.1=w.2.2.2.1:=by rw [←IE];rfl
   have p3:w2.2.1=w.2.1:=by rw [←IE];rfl
   have hW2:ko (n+1) w2:=by
    rw [←IE];have hU:=hW.up (Nat.le_succ n);have hsd:(w.q.1++sC f said).length≤1048576+63*(n+1):=by rw [List.length_append];omega
    exact { ring:=hU.ring,len:=hU.len,ids:=hU.ids,pw:=hU.pw,wv:=hU.wv,po:=hU.po,heard:=hU.heard,list:=hU.list,said:=hsd }
   have hm5:w2.2.2.1.length≤5:=by rw [p1,List.length_set];exact q1
   have e5:=Fk w2 f.1 said hm5 (by rw [p2];omega) (by omega);have SS:=mZ w2.2.2.1 f.1 5 hm5 said;have hl6:(w2.2.2.2.1++de w2.2.2.1 f.1 said).length≤w.2.2.2.1.length+315:=by rw [List.length_append,p2];omega
   have hnl:nx.q.1.length≤1048576:=Nat.le_trans H.tq.q.1 (by decide);have e6:=Ct (iV w2 (w2.2.2.2.1++de w2.2.2.1 f.1 said)) f.1 nx (by show w2.2.1.length≤_;rw [p3];omega) (by show (w2.2.2.2.1++de w2.2.2.1 f.1 said).length≤_;omega) hnl;refine ⟨0,iV (iV w2 (w2.2.2.2.1++de w2.2.2.1 f.1 said)) ((w2.2.2.2.1++de w2.2.2.1 f.1 said)++[ff (il w2.1 w2.2.1 f.1) nx]),?_,?_,hW2.Bo (fun g hg => ?_) ?_,?_⟩
   ·subst Kz;rw [e2];simp only [Option.bind_some,Bool.not_true,cond_false];rw [e3];simp only [Option.bind_some];have e4':=e4;simp only [e4,bO,Option.bind_some];rw [show f.2.1=true from ht] at e4;rw [e4];simp only [Option.bind_some];rw [e5];simp only [Option.bind_some];rw [e6];rfl
   ·have alu:m'.1=f.1:=H.id.1.trans yw;have hd:List.drop (said.length-j) said=sC f said:=SJ.symm;have t1:=Db (pt w k m') m'.1 said hW.len hW.ids q0 (by show w.2.2.2.1.length≤_;omega) (by omega);have t1:eP w.1 w.2.1 (w.2.2.1.set k m') w.2.2.2.1 w.2.2.2.2.1 w.q.1 m'.1 said=some (w.1,w.2.1,w.2.2.1.set k m',w.2.2.2.1++de (w.2.2.1.set k m') m'.1 said,w.2.2.2.2.1,w.q.1,()):=t1;have hl7:(w.2.2.2.1++de (w.2.2.1.set k m') m'.1 said).length≤2147483648:=by
     have:=mZ (w.2.2.1.set k m') m'.1 5 (by rw [List.length_set];exact q1) said;rw [List.length_append];omega
    have t2:=Kp (iV (pt w k m') (w.2.2.2.1++de (w.2.2.1.set k m') m'.1 said)) m'.1 nx (by show w.2.1.length≤_;omega) hl7 hnl;have t2:ic w.1 w.2.1 (w.2.2.1.set k m') (w.2.2.2.1++de (w.2.2.1.set k m') m'.1 said) w.2.2.2.2.1 w.q.1 m'.1 nx.1 nx.2.1 nx.2.2.1 nx.2.2.2.1 nx.2.2.2.2.1 nx.q.1=some (w.1,w.2.1,w.2.2.1.set k m',(w.2.2.2.1++de (w.2.2.1.set k m') m'.1 said)++[ff (il w.1 w.2.1 m'.1) nx],w.2.2.2.2.1,w.q.1,()):=t2;have hwr:IntKind.i64.wrap (((said.length:Nat):Int)-((j:Nat):Int))=((said.length-j:Nat):Int):=by rw [du]<;>omega
    subst Kz;rw [i2];have t1:eP w.1 w.2.1 (w.2.2.1.set k (m'.1,m'.2.1,m'.2.2.1,m'.2.2.2.1,m'.2.2.2.2.1,m'.q.1,m'.q.2.1,m'.q.2.2.1,m'.q.2.2.2.1,m'.q.2.2.2.2.1,m'.q.q.1,m'.q.q.2.1,m'.q.q.2.2.1,m'.q.q.2.2.2.1,m'.q.q.2.2.2.2.1,m'.q.q.q.1,())) w.2.2.2.1 w.2.2.2.2.1 w.q.1 m'.1 said=_:=t1;simp only [Option.bind_some,Bool.not_true,cond_false,t1,t2];simp only [hwr,ak,cond_true,az,af (show ((said.length-j:Nat):Int)≤((said.length:Nat):Int) by omega),hd,aJ (show (w.q.1.length+(sC f said).length)*40≤lim by unfold lim;omega)];rw [←IE,alu];rfl
   ·rcases List.mem_append.1 hg with hg | hg
    ·rcases List.mem_append.1 hg with hg | hg
     ·rw [p2] at hg;exact h.po g hg
     ·exact Kq g hg
    ·rw [List.mem_singleton] at hg;subst hg;exact hnl
   ·rw [List.length_append,List.length_singleton];omega
   ·subst Kz;rw [←IE];exact .held k hk yw ht m' said j nx hT hh.2.2.2.1 H
theorem Kr (b:Bool) (d:Int) (s:ByteArray):qI b d s=some (bif b then (decide (1≤d)&&decide (d≤2))&&decide (((ByteArray.size s:Nat):Int)≤60) else decide (d=0)&&kM s (ByteArray.mk #[]),()):=by
 unfold qI;simp only [xw,Option.bind_some]
 cases b
 ·cases decide (d=0)<;>rfl
 ·cases (decide (1≤d)&&decide (d≤2))<;>rfl
theorem PF {c:Int} {ms:dF} (hr:qt c ms) {e:Bq} (he:Mm ms e):mS c ms e.1 e.2.1 e.2.2.1 e.2.2.2.1 e.2.2.2.2.1=some (true,()):=by
 have hl:=hr.2.1.2;unfold mS;simp only [sn,af he.kind.1,af he.kind.2,Bool.and_self,Option.bind_some,Bool.not_true,cond_false,H8 ms e.2.1 (by omega),af he.id,ai (show ¬e.2.2.1<0 by have:=he.at_;omega),(ig c ms (by omega)).2.1,(ig c ms (by omega)).2.2.2 hr,Kr]
 by_cases h1:e.1=1
 ·obtain ⟨⟨a1,a2⟩,a3⟩:=he.ZU h1;rw [af h1,af a1,af a2,af (show ((ByteArray.size e.2.2.2.2.1:Nat):Int)≤60 by omega)];rfl
 ·obtain ⟨a1,a2⟩:=he.no h1;rw [ai h1,af a1,a2];show some (kM ByteArray.empty ByteArray.empty,())=_;rw [bS]
theorem UH (xs:List mh) {k:Nat} (hk:k<xs.length):LP xs ((k:Nat):Int) ((k+1:Nat):Int)=some (xs.take k++xs.drop (k+1),()):=by
 unfold LP;rw [af (show (0:Int)≤((k:Nat):Int) by omega),af (show ((k+1:Nat):Int)=((k:Nat):Int)+1 by omega),af (show ((k:Nat):Int)<((List.length xs:Nat):Int) by omega)];rfl
theorem UI {n:Nat} {w:bt} (h:ko n w) (hn:n≤1000000) {e:Bq} (he:Mm w.2.1 e):∃a w',ou w.1 w.2.1 w.2.2.1 w.2.2.2.1 w.2.2.2.2.1 w.q.1 e.1 e.2.1 e.2.2.1 e.2.2.2.1 e.2.2.2.2.1=some (a,w'.1,w'.2.1,w'.2.2.1,w'.2.2.2.1,w'.2.2.2.2.1,w'.q.1,())∧qN w.1 w.2.1 w.2.2.1 w.2.2.2.1 w.2.2.2.2.1 w.q.1 e.1 e.2.1 e.2.2.1 e.2.2.2.1 e.2.2.2.2.1=some (a,w'.1,w'.2.1,w'.2.2.1,w'.2.2.2.1,w'.2.2.2.2.1,w'.q.1,())∧ko (n+1) w'∧Step w e w':=by
 obtain ⟨q0,q1,q2⟩:=h.Dp;have ZT:=h.wv;obtain ⟨a,e1,i1,hq⟩:=Nt h e.2.1;have hq:∃k,∃hk:k<w.2.2.1.length,a=((k:Nat):Int)∧(w.2.2.1[k]).1=e.2.1:=by
  rcases hq with ⟨_,g⟩ | g
  ·obtain ⟨j,hj,ej⟩:=List.mem_iff_getElem.1 he.id;have JK:j<w.2.2.1.length:=by rw [h.len];exact hj
   exact absurd ((h.ids j JK hj).trans (congrArg Prod.fst ej)) (g j JK)
  ·exact g
 obtain ⟨k,hk,rfl,yw⟩:=hq;have hm:=h.pw _ (List.getElem_mem hk);unfold ou qN
 try simp only [cX]
 simp only [e1,i1,Option.bind_some]
 by_cases k1:e.1=1
 ·obtain ⟨a1,a2⟩:=he.ZU k1;obtain ⟨e2,i2⟩:=Kj w.2.2.1[k] e.2.2.2.1 e.2.2.2.2.1 (Nat.le_trans hm.small (by decide));simp only [af k1,cond_true,ak,az,cS hk,List.getElem?_eq_getElem hk,Option.bind_some];rw [e2,i2];simp only [Option.bind_some]
  cases hb:(jj w.2.2.1[k] e.2.2.2.1 e.2.2.2.2.1).2
  ·exact ⟨1,w,rfl,rfl,h.up (Nat.le_succ n),.same⟩
  ·have Iq:Ki w.2.2.1[k] e.2.2.2.1 e.2.2.2.2.1=true:=by
    unfold jj at hb
    cases hm2:Ki w.2.2.1[k] e.2.2.2.1 e.2.2.2.2.1
    ·rw [hm2] at hb;cases hb
    ·rfl
   have hs:(jj w.2.2.1[k] e.2.2.2.1 e.2.2.2.2.1).1=Fi w.2.2.1[k] e.2.2.2.1 e.2.2.2.2.1:=by unfold jj;rw [Iq];rfl
   unfold Ki at Iq;simp only [Bool.and_eq_true,decide_eq_true_eq] at Iq;have e3:=pv w (by omega) hk (Fi w.2.2.1[k] e.2.2.2.1 e.2.2.2.2.1);rw [hs];simp only [Bool.not_true,cond_false];rw [e3];exact ⟨0,_,rfl,rfl,(h.px hk (Nq hm a1 a2 Iq.2.2.2) rfl).up (Nat.le_succ n),.ZU k hk yw k1⟩
 by_cases k7:e.1=7
 ·obtain ⟨w',e2,i2,hw⟩:=PC e h hn hk;simp only [ai k1,af k7,cond_true,cond_false];rw [e2,i2];exact ⟨0,w',rfl,rfl,hw⟩
 by_cases k6:e.1=6
 ·obtain ⟨b,w',e2,i2,hw⟩:=Mr e h hn hk;simp only [ai k1,ai k7,af k6,cond_true,cond_false];rw [e2,i2];exact ⟨b,w',rfl,rfl,hw⟩
 simp only [ai k1,ai k7,ai k6,cond_false];unfold qb
 by_cases h0:w.2.2.2.1.length=0
 ·rw [af (show ((List.length w.2.2.2.1:Nat):Int)=0 by omega)];exact ⟨1,w,rfl,rfl,h.up (Nat.le_succ n),.same⟩
 obtain ⟨i,hi⟩:=Int.eq_ofNat_of_zero_le he.at_;have bQ:i % w.2.2.2.1.length<w.2.2.2.1.length:=Nat.mod_lt _ (by omega);generalize hj:i % w.2.2.2.1.length=j at bQ;have et:Int.tmod e.2.2.1 ((List.length w.2.2.2.1:Nat):Int)=((j:Nat):Int):=by rw [hi,←hj];exact xZ _ _
 have hF:=h.po _ (List.getElem_mem bQ);simp only [ai (show ¬((List.length w.2.2.2.1:Nat):Int)=0 by omega),cond_false,et,ak,az,cS bQ,List.getElem?_eq_getElem bQ,Option.bind_some,cond_true]
 by_cases k5:e.1=5
 ·simp only [af k5,cond_true,aJ (show (0+w.2.2.2.1.length)*120≤lim by unfold lim;omega),List.nil_append,aJ (show (w.2.2.2.1.length+1)*120≤lim by unfold lim;omega),vu,(gF (w.2.2.2.1[j]).2.2.1 (w.2.2.2.1[j]).2.2.2.1 (w.2.2.2.1[j]).2.2.2.2.1 (w.2.2.2.1[j]).q.1 (w.2.2.2.1[j]).q.2.1 (w.2.2.2.1[j]).q.2.2.1 hF).2,Option.bind_some];refine ⟨0,iV w (w.2.2.2.1++[w.2.2.2.1[j]]),rfl,rfl,(h.up (Nat.le_succ n)).Bo (fun f hf => ?_) ?_,.dup j bQ⟩
  ·rcases List.mem_append.1 hf with hf | hf
   ·exact h.po f hf
   ·rw [List.mem_singleton] at hf;subst hf;exact hF
  ·rw [List.length_append,List.length_singleton];omega
 have MH:(List.take j w.2.2.2.1).length≤w.2.2.2.1.length:=by rw [List.length_take];omega
 have PL:(List.drop (j+1) w.2.2.2.1).length≤w.2.2.2.1.length:=by rw [List.length_drop];omega
 have hW:ko n (iV w (List.take j w.2.2.2.1++List.drop (j+1) w.2.2.2.1)):=h.Bo (fun f hf=>by
  rcases List.mem_append.1 hf with hf | hf
  ·exact h.po f (List.mem_of_mem_take hf)
  ·exact h.po f (List.mem_of_mem_drop hf)) (by rw [List.length_append,List.length_take,List.length_drop];omega)
 obtain ⟨b,w',e2,i2,hw⟩:=PE hW hn w.2.2.2.1[j] hF;have e2:iR w.1 w.2.1 w.2.2.1 (List.take j w.2.2.2.1++List.drop (j+1) w.2.2.2.1) w.2.2.2.2.1 w.q.1 (w.2.2.2.1[j]).1 (w.2.2.2.1[j]).2.1 (w.2.2.2.1[j]).2.2.1 (w.2.2.2.1[j]).2.2.2.1 (w.2.2.2.1[j]).2.2.2.2.1 (w.2.2.2.1[j]).q.1 (w.2.2.2.1[j]).q.2.1 (w.2.2.2.1[j]).q.2.2.1 (w.2.2.2.1[j]).q.2.2.2.1 (w.2.2.2.1[j]).q.2.2.2.2.1 (w.2.2.2.1[j]).q.q.1 (w.2.2.2.1[j]).q.q.2.1=some (b,w'.1,w'.2.1,w'.2.2.1,w'.2.2.2.1,w'.2.2.2.2.1,w'.q.1,()):=e2;have i2:ly w.1 w.2.1 w.2.2.1 (List.take j w.2.2.2.1++List.drop (j+1) w.2.2.2.1) w.2.2.2.2.1 w.q.1 (w.2.2.2.1[j]).1 (w.2.2.2.1[j]).2.1 (w.2.2.2.1[j]).2.2.1 (w.2.2.2.1[j]).2.2.2.1 (w.2.2.2.1[j]).2.2.2.2.1 (w.2.2.2.1[j]).q.1 (w.2.2.2.1[j]).q.2.1 (w.2.2.2.1[j]).q.2.2.1 (w.2.2.2.1[j]).q.2.2.2.1 (w.2.2.2.1[j]).q.2.2.2.2.1 (w.2.2.2.1[j]).q.q.1 (w.2.2.2.1[j]).q.q.2.1=some (b,w'.1,w'.2.1,w'.2.2.1,w'.2.2.2.1,w'.2.2.2.2.1,w'.q.1,()):=i2;simp only [ai k5,cond_false,af (show ((j:Nat):Int)≤((List.length w.2.2.2.1:Nat):Int) by omega),cond_true,List.drop_zero,List.nil_append,aE (show j<4611686018427387904 by omega),ak,az,UH _ bQ,Option.bind_some,
  af (show (((j+1:Nat)):Int)≤((List.length w.2.2.2.1:Nat):Int) by omega),aJ (show (0+(List.take j w.2.2.2.1).length)*120≤lim by unfold lim;omega),aJ (show ((List.take j w.2.2.2.1).length+(List.drop (j+1) w.2.2.2.1).length)*120≤lim by unfold lim;omega),cX]
 by_cases k4:e.1=4
 ·rw [af k4];exact ⟨0,_,rfl,rfl,hW.up (Nat.le_succ n),.drop j bQ⟩
 ·rw [ai k4,e2,i2];exact ⟨b,w',rfl,rfl,hw.1,.afu j bQ w' hw.2⟩
end Go.TM
