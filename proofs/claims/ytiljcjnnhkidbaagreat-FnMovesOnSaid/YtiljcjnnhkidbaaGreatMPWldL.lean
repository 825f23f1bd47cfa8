/- The world's life, as the reference plays it: deeds. -/
import Derived.Test.YtiljcjnnhkidbaaGreatMPHold
set_option linter.unusedSimpArgs false
set_option linter.unusedVariables false
namespace Go.TM
open Go
structure JE (x:GJ):Prop where
 B7:1≤x.2.1∧x.2.1≤5
 OE:x.2.2.2.2.2.2.2.2.2.2.2.2.1.length≤20
 bun:x.2.2.2.2.2.2.2.2.2.2.2.2.2.2.2.2.1.length≤60
structure jY (n:Nat) (w:mr):Prop where
 rings:(∀r∈w.1,js r.1 r.2.1)∧w.1.length≤9
 Ai:w.2.1.length=5
 Gq:∀k (hk:k<w.2.1.length),kN n w.2.1[k]∧(w.2.1[k]).1=((k+1:Nat):Int)
 lets:∀x∈w.2.2.1,JE x
 GR:w.2.2.1.length≤400*(n+1)
 num:w.2.2.2.1.length≤63*n
 nums:∀e∈w.2.2.2.1,OI e
theorem jY.up {n n':Nat} {w:mr} (h:jY n w) (hn:n≤n'):jY n' w:=
 { h with Gq:=fun k hk=>⟨(h.Gq k hk).1.up hn,(h.Gq k hk).2⟩,GR:=by have:=h.GR;omega,num:=by have:=h.num;omega }
theorem jY.Ah {n:Nat} {w:mr} (h:jY n w) {k:Nat} (hk:k<w.2.1.length) {d:bZ} (hd:kN n d) (h1:d.1=(w.2.1[k]).1):jY n (Ah w k d):=
 {
  rings:=h.rings
  Ai:=by show (w.2.1.set k d).length=5;rw [List.length_set];exact h.Ai
  Gq:=fun j hj=>by
   have hj:j<(w.2.1.set k d).length:=hj;show kN n (w.2.1.set k d)[j]∧((w.2.1.set k d)[j]).1=_;rw [List.length_set] at hj;rw [List.getElem_set]
   split
   ·rename_i e;subst e;exact ⟨hd,h1.trans (h.Gq k hk).2⟩
   ·exact h.Gq j hj
  lets:=h.lets
  GR:=h.GR
  num:=h.num
  nums:=h.nums }
theorem jY.fN {n:Nat} {w:mr} (h:jY n w) {l:List GJ} (h1:∀x∈l,JE x) (h2:l.length≤400*(n+1)):jY n (fN w l):=
 { rings:=h.rings,Ai:=h.Ai,Gq:=h.Gq,lets:=h1,GR:=h2,num:=h.num,nums:=h.nums }
theorem jY.xu {n:Nat} {w:mr} (h:jY n w) {l:List tK} (h2:l.length≤63*n) (h3:∀e∈l,OI e):jY n (xu w l):=
 { rings:=h.rings,Ai:=h.Ai,Gq:=h.Gq,lets:=h.lets,GR:=h.GR,num:=h2,nums:=h3 }
theorem Uw {B7 c:Int} {x:dY} (h:1≤B7∧B7≤5):JE (Ev B7 c x):=⟨h,Nat.zero_le _,Nat.zero_le _⟩
theorem IW {B7 c:Int} {t:lT} (h:1≤B7∧B7≤5) (ht:t.2.2.2.2.2.1.length≤20):JE (xv B7 c t):=⟨h,ht,Nat.zero_le _⟩
theorem X4 {B7 c:Int} {b:dS} (h:1≤B7∧B7≤5) (hb:b.2.2.2.1.length≤60):JE (QV B7 c b):=⟨h,Nat.zero_le _,hb⟩
theorem MI {c:Int} {ms:dC} (hr:js c ms) {id:Int} {l:aV}:∀x∈dA ms c id l,JE x:=fun x hx=>by
 obtain ⟨m,hm,y,_,rfl⟩:=QW hx;obtain ⟨k,hk,rfl⟩:=List.mem_iff_getElem.1 hm;exact Uw (hr.2.2 k hk hk).1
def l6 (c:Int) (ms:dC) (t:lT) (l:aV):List tK:=gv c ms (l.filter fun x=>decide (t.2.2.1<x.1))
theorem Lm (c:Int) (ms:dC) (t:lT) (l:aV):(l6 c ms t l).length≤l.length:=by
 unfold l6;rw [oz];exact List.length_filter_le _ _
theorem JF (w:mr) (id:Int) (t nx:lT) (l:aV) (c:Int) (ms:dC) (h1:w.2.2.2.1.length≤1048576) (h2:l.length≤1048576) (h3:ms.length≤1048576) :
  aJ fE (w.1,w.2.1,w.2.2.1,w.2.2.2.1,id,t.1,t.2.1,t.2.2.1,t.2.2.2.1,t.2.2.2.2.1,t.2.2.2.2.2.1,l,nx.1,nx.2.1,nx.2.2.1,nx.2.2.2.1,nx.2.2.2.2.1,nx.2.2.2.2.2.1,c,ms,(0:Int),())=some (.inl ((xu w (w.2.2.2.1++l6 c ms t l)).1,(xu w (w.2.2.2.1++l6 c ms t l)).2.1,(xu w (w.2.2.2.1++l6 c ms t l)).2.2.1,(xu w (w.2.2.2.1++l6 c ms t l)).2.2.2.1,id,l,nx.1,nx.2.1,nx.2.2.1,nx.2.2.2.1,nx.2.2.2.2.1,nx.2.2.2.2.2.1,c,ms,())):=by
 have l1:=ck (round:=fE) (e:=.inl ((xu w (w.2.2.2.1++l6 c ms t l)).1,(xu w (w.2.2.2.1++l6 c ms t l)).2.1,(xu w (w.2.2.2.1++l6 c ms t l)).2.2.1,(xu w (w.2.2.2.1++l6 c ms t l)).2.2.2.1,id,l,nx.1,nx.2.1,nx.2.2.1,nx.2.2.2.1,nx.2.2.2.2.1,nx.2.2.2.2.2.1,c,ms,())) l.length (fun k=>((xu w (w.2.2.2.1++l6 c ms t (l.take k))).1,(xu w (w.2.2.2.1++l6 c ms t (l.take k))).2.1,(xu w (w.2.2.2.1++l6 c ms t (l.take k))).2.2.1,(xu w (w.2.2.2.1++l6 c ms t (l.take k))).2.2.2.1,id,t.1,t.2.1,t.2.2.1,t.2.2.2.1,t.2.2.2.2.1,t.2.2.2.2.2.1,l,nx.1,nx.2.1,nx.2.2.1,nx.2.2.2.1,nx.2.2.2.2.1,nx.2.2.2.2.2.1,c,ms,((k:Nat):Int),())) (by
  simp only [fE,ba,aw,lD,aA,aM,cond_false,List.take_length]) (fun k hk=>by
  have hb:=Lm c ms t (l.take k);rw [List.length_take] at hb;have e:l6 c ms t (l.take (k+1))=l6 c ms t (l.take k)++(bif decide (t.2.2.1<(l[k]).1) then [(1,c,ms,(l[k]).1,(l[k]).2.1,(l[k]).2.2.1,(l[k]).2.2.2.1,[],())] else []):=by
   unfold l6 gv;rw [List.take_succ_eq_append_getElem hk,List.filter_append,List.map_append,List.filter_cons,List.filter_nil]
   cases decide (t.2.2.1<(l[k]).1)<;>rfl
  simp only [xu,e,fE,ba,aw,lD,aA,aE hk,ax,cond_true,aF,fl hk,List.getElem?_eq_getElem hk,Option.bind_some,mU c ms h3,List.nil_append,aT (show (0+(w.2.2.2.1++l6 c ms t (l.take k)).length)*104≤lim by rw [List.length_append];unfold lim;omega),aT (show ((w.2.2.2.1++l6 c ms t (l.take k)).length+1)*104≤lim by rw [List.length_append];unfold lim;omega),di,aN (show k<4611686018427387904 by omega)]
  cases decide (t.2.2.1<(l[k]).1)
  ·simp only [cond_false,List.append_nil]
  ·simp only [cond_true,List.append_assoc])
 have l1:aJ fE ((xu w (w.2.2.2.1++l6 c ms t (l.take 0))).1,(xu w (w.2.2.2.1++l6 c ms t (l.take 0))).2.1,(xu w (w.2.2.2.1++l6 c ms t (l.take 0))).2.2.1,(xu w (w.2.2.2.1++l6 c ms t (l.take 0))).2.2.2.1,id,t.1,t.2.1,t.2.2.1,t.2.2.2.1,t.2.2.2.2.1,t.2.2.2.2.2.1,l,nx.1,nx.2.1,nx.2.2.1,nx.2.2.2.1,nx.2.2.2.2.1,nx.2.2.2.2.2.1,c,ms,(0:Int),())=_:=l1;rw [show l6 c ms t (l.take 0)=[] from rfl,List.append_nil] at l1;exact l1
theorem Gr {n:Nat} {w:mr} (h:jY n w) (hn:n≤99) {k:Nat} (hk:k<w.2.1.length) (t:lT) (ht:t.2.2.2.2.2.1.length≤1048576):∃a w',iw w.1 w.2.1 w.2.2.1 w.2.2.2.1 ((k+1:Nat):Int) t.1 t.2.1 t.2.2.1 t.2.2.2.1 t.2.2.2.2.1 t.2.2.2.2.2.1=some (a,w'.1,w'.2.1,w'.2.2.1,w'.2.2.2.1,())∧jY (n+1) w':=by
 have hf:=h.GR;have arY:=h.num;have h5:=h.Ai;obtain ⟨r,said,nx,b,e1,_,g,g1,gf,gt⟩:=FB (h.Gq k hk).1 (by omega) t ht;unfold iw;delta az aw aP aA bA;simp only [wk (show k<1000 by omega),ax,cond_true,aF,List.getElem?_eq_getElem hk,Option.bind_some,e1]
 cases b
 ·exact ⟨1,w,rfl,h.up (Nat.le_succ n)⟩
 obtain ⟨hi,hT,m,j,H,hr⟩:=gt rfl;have hm1:=H.nq;have hlen:said.length≤63:=by
  rw [H.said,List.length_append,zI];have h1:(wW t (aI w.2.1[k]).2.2.2.1).length≤(aI w.2.1[k]).2.2.2.1.length:=List.length_filter_le _ _;have h2:=(dD _ (uZ ((h.Gq k hk).1.small (by omega)) hi).1.items).1;have:=H.GR.1;omega
 have hq:jY (n+1) (Ah w k r):=(h.up (Nat.le_succ n)).Ah hk g g1;have arZ:r.1=((k+1:Nat):Int):=g1.trans (h.Gq k hk).2;have e3:=pL w (by omega) hk r arZ;have X5:r.2.2.2.1=m.2.1∧r.2.2.2.2.1=m.2.2.1:=by
  rw [hr];unfold tO;obtain ⟨q,_,e,_⟩:=OJ (m:=aI (jU w.2.1[k] m)) hm1;rw [e];exact ⟨rfl,rfl⟩
 have hRP:js r.2.2.2.1 r.2.2.2.2.1:=by rw [X5.1,X5.2];exact hm1.ring
 have Gu:(((k+1:Nat):Int),())∈r.2.2.2.2.1:=by
  have h1:=hm1.mem;rw [H.id.1] at h1;have h2:=(uZ ((h.Gq k hk).1.small (by omega)) hi).2.1;have h2:(aI w.2.1[k]).1=(w.2.1[k]).1:=h2;rw [h2,(h.Gq k hk).2] at h1;rw [X5.2];exact h1
 have e4:=JF (Ah w k r) ((k+1:Nat):Int) t nx said r.2.2.2.1 r.2.2.2.2.1 (by show w.2.2.2.1.length≤_;omega) (by omega) (by have:=hRP.2.1.2;omega);have hN:=Lm r.2.2.2.1 r.2.2.2.2.1 t said;generalize W3:xu (Ah w k r) ((Ah w k r).2.2.2.1++l6 r.2.2.2.1 r.2.2.2.2.1 t said)=w1 at e4;have Vn:jY (n+1) w1:=by
  rw [←W3];refine hq.xu ?_ fun e he => ?_
  ·show (w.2.2.2.1++_).length≤_;rw [List.length_append];omega
  ·have he:e∈w.2.2.2.1++l6 r.2.2.2.1 r.2.2.2.2.1 t said:=he;rcases List.mem_append.1 he with he | he
   ·exact h.nums e he
   ·refine ME hRP.2.1.2 (fun x hx => ?_) e he;have hx:=(List.mem_filter.1 hx).1;rw [H.said] at hx;have hmQ:=(uZ ((h.Gq k hk).1.small (by omega)) hi).1;rcases List.mem_append.1 hx with hx | hx
    ·exact (rY hmQ.items x (XT hx)).2.2.2
    ·exact (Gn ⟨hT.2.2.1.1,H.GR.2.2⟩ hmQ.id H.GR.2.1 hmQ.short x hx).2.2.2
 have p3:w1.2.2.1=w.2.2.1:=by rw [←W3];rfl
 have e5:=Lk w1 r.2.2.2.1 r.2.2.2.2.1 ((k+1:Nat):Int) said hRP.2.1.2 (by rw [p3];omega) (by omega);have htl:=zN r.2.2.2.2.1 r.2.2.2.1 ((k+1:Nat):Int) hRP.2.1.2 said;obtain ⟨B7,ZR,e6⟩:=Ll (fN w1 (w1.2.2.1++dA r.2.2.2.2.1 r.2.2.2.1 ((k+1:Nat):Int) said)) hRP Gu nx (by show (w1.2.2.1++dA _ _ _ _).length≤_;rw [List.length_append,p3];omega) (Nat.le_trans H.tq.2.2.2.2.2.1 (by decide));refine ⟨0,fN (fN w1 (w1.2.2.1++dA r.2.2.2.2.1 r.2.2.2.1 ((k+1:Nat):Int) said)) ((w1.2.2.1++dA r.2.2.2.2.1 r.2.2.2.1 ((k+1:Nat):Int) said)++[xv B7 r.2.2.2.1 nx]),?_,?_⟩
 ·simp only [Bool.not_true,cond_false];rw [e3];simp only [Option.bind_some];rw [e4];simp only [cg,Option.bind_some];rw [e5];simp only [Option.bind_some];rw [e6];rfl
 ·refine jY.fN (w:=fN w1 _) (Vn.fN (fun x hx => ?_) ?_) (fun x hx => ?_) ?_
  ·rcases List.mem_append.1 hx with hx | hx
   ·exact Vn.lets x hx
   ·exact MI hRP x hx
  ·rw [List.length_append,p3];omega
  ·rcases List.mem_append.1 hx with hx | hx
   ·rcases List.mem_append.1 hx with hx | hx
    ·exact Vn.lets x hx
    ·exact MI hRP x hx
   ·rw [List.mem_singleton] at hx;subst hx;exact IW ZR H.tq.2.2.2.2.2.1
  ·rw [List.length_append,List.length_append,p3,List.length_singleton];omega
theorem FF {d:bZ} {ms:dC} {b x:dS} (h:x∈fU d ms b):x=b:=by
 obtain ⟨_,_,rfl⟩:=List.mem_map.1 h;rfl
theorem Ux (d:bZ) (ms:dC) (b:dS) {j:Nat} (hj:j<ms.length) (lO:¬ms[j].1=d.1):(fU d (ms.take j) b).length<(fU d ms b).length:=by
 have h1:=CZ d ms b hj;rw [decide_eq_false lO] at h1;have h2:(fU d (ms.take (j+1)) b).length=(fU d (ms.take j) b).length+1:=by rw [h1];simp
 have h3:(fU d (ms.take (j+1)) b).length≤(fU d ms b).length:=by
  unfold fU;rw [List.length_map,List.length_map];exact ((List.take_sublist (j+1) ms).filter _).length_le
 omega
theorem QX {n:Nat} {w:mr} (h:jY n w) (hn:n≤100) (d:bZ) (b:dS) {c:Int} {ms:dC} (hr:js c ms) (hb:b.2.2.2.1.length≤60) :
  ∃w':mr,aJ kj (w.1,w.2.1,w.2.2.1,w.2.2.2.1,d.1,c,ms,fU d ms b,(0:Int),(0:Int),())=some (.inl (w'.1,w'.2.1,w'.2.2.1,w'.2.2.2.1,()))∧w'.1=w.1∧w'.2.1=w.2.1∧w'.2.2.2=w.2.2.2∧(∀x∈w'.2.2.1,JE x)∧w'.2.2.1.length≤w.2.2.1.length+5:=by
 have hf:=h.GR;have hl:=hr.2.1.2;have ht:=Li d ms b;obtain ⟨e,he,l,rfl,g1,g2⟩:=dG (round:=kj) (x:=(w.1,w.2.1,w.2.2.1,w.2.2.2.1,d.1,c,ms,fU d ms b,(0:Int),((0:Nat):Int),())) ms.length
  (fun j x=>∃l,x=((fN w l).1,(fN w l).2.1,(fN w l).2.2.1,(fN w l).2.2.2.1,d.1,c,ms,fU d ms b,(((fU d (ms.take j) b).length:Nat):Int),((j:Nat):Int),())∧(∀x∈l,JE x)∧l.length≤w.2.2.1.length+j)
  (fun e=>∃l,e=.inl ((fN w l).1,(fN w l).2.1,(fN w l).2.2.1,(fN w l).2.2.2.1,())∧(∀x∈l,JE x)∧l.length≤w.2.2.1.length+ms.length) (by
   rintro x ⟨l,rfl,g1,g2⟩
   exact ⟨_,by simp only [kj,bC,tn,aw,aA,aM,cond_false],l,rfl,g1,g2⟩) (by
   rintro j x hj ⟨l,rfl,g1,g2⟩
   have e1:=CZ d ms b hj;simp only [kj,bC,tn,aw,aA,aE hj,ax,cond_true,aF,List.getElem?_eq_getElem hj,Option.bind_some,aN (show j<4611686018427387904 by omega)]
   by_cases g:ms[j].1=d.1
   ·rw [ak g];rw [decide_eq_true g] at e1;have e2:(fU d (ms.take (j+1)) b).length=(fU d (ms.take j) b).length:=by rw [e1];simp
    refine .inr ⟨_,rfl,l,?_,g1,by omega⟩;rw [e2]
   ·rw [aq g];have hm:=Ux d ms b hj g;have hx:(fU d ms b)[(fU d (ms.take j) b).length]=b:=FF (List.getElem_mem hm);have hs:=Eu (fN w l) (by show l.length≤_;omega) (QV ms[j].1 c b);have hs:fa w.1 w.2.1 l w.2.2.2.1 3 ms[j].1 c 0 0 0 ByteArray.empty 0 0 0 0 0 [] b.1 b.2.1 b.2.2.1 b.2.2.2.1=_:=hs;have e2:(fU d (ms.take (j+1)) b).length=(fU d (ms.take j) b).length+1:=by rw [e1,decide_eq_false g];simp
    simp only [Bool.not_false,cond_true,fl hm,List.getElem?_eq_getElem hm,Option.bind_some,hx,fN] at hs ⊢;rw [hs];refine .inr ⟨_,rfl,l++[QV ms[j].1 c b],?_,fun x hx => ?_,by rw [List.length_append,List.length_singleton];omega⟩
    ·rw [e2,aN (show (fU d (ms.take j) b).length<4611686018427387904 by omega)]
    ·rcases List.mem_append.1 hx with hx | hx
     ·exact g1 x hx
     ·rw [List.mem_singleton] at hx;subst hx;exact X4 (hr.2.2 j hj hj).1 hb) ⟨w.2.2.1,rfl,h.lets,by omega⟩
 exact ⟨fN w l,he,rfl,rfl,rfl,g1,by show l.length≤_;omega⟩
theorem QY {n:Nat} {w:mr} (h:jY n w) (hn:n≤98) {k:Nat} (hk:k<w.2.1.length):∃a w',uz w.1 w.2.1 w.2.2.1 w.2.2.2.1 ((k+1:Nat):Int)=some (a,w'.1,w'.2.1,w'.2.2.1,w'.2.2.2.1,())∧jY (n+1) w':=by
 have hf:=h.GR;have h5:=h.Ai;have hrl:=h.rings.2;obtain ⟨hd,wo⟩:=h.Gq k hk;generalize hdd:w.2.1[k]=d at hd wo;unfold uz;delta bI aA;simp only [wk (show k<1000 by omega),ax,cond_true,aF,List.getElem?_eq_getElem hk,Option.bind_some,hdd];obtain ⟨e,he,hq⟩:=dG (round:=kk) (x:=(w.1,w.2.1,w.2.2.1,w.2.2.2.1,((k+1:Nat):Int),d.1,d.2.1,d.2.2.1,d.2.2.2.1,d.2.2.2.2.1,d.2.2.2.2.2.1,d.2.2.2.2.2.2.1,d.2.2.2.2.2.2.2.1,d.2.2.2.2.2.2.2.2.1,d.2.2.2.2.2.2.2.2.2.1,d.2.2.2.2.2.2.2.2.2.2.1,d.2.2.2.2.2.2.2.2.2.2.2.1,d.2.2.2.2.2.2.2.2.2.2.2.2.1,d.2.2.2.2.2.2.2.2.2.2.2.2.2.1,d.2.2.2.2.2.2.2.2.2.2.2.2.2.2.1,d.2.2.2.2.2.2.2.2.2.2.2.2.2.2.2.1,d.2.2.2.2.2.2.2.2.2.2.2.2.2.2.2.2.1,d.2.2.2.2.2.2.2.2.2.2.2.2.2.2.2.2.2.1,d.2.2.2.2.2.2.2.2.2.2.2.2.2.2.2.2.2.2.1,d.2.2.2.2.2.2.2.2.2.2.2.2.2.2.2.2.2.2.2.1,d.2.2.2.2.2.2.2.2.2.2.2.2.2.2.2.2.2.2.2.2.1,d.2.2.2.2.2.2.2.2.2.2.2.2.2.2.2.2.2.2.2.2.2.1,d.2.2.2.2.2.2.2.2.2.2.2.2.2.2.2.2.2.2.2.2.2.2.1,d.2.2.2.2.2.2.2.2.2.2.2.2.2.2.2.2.2.2.2.2.2.2.2.1,((0:Nat):Int),())) w.1.length
  (fun i x=>x=(w.1,w.2.1,w.2.2.1,w.2.2.2.1,((k+1:Nat):Int),d.1,d.2.1,d.2.2.1,d.2.2.2.1,d.2.2.2.2.1,d.2.2.2.2.2.1,d.2.2.2.2.2.2.1,d.2.2.2.2.2.2.2.1,d.2.2.2.2.2.2.2.2.1,d.2.2.2.2.2.2.2.2.2.1,d.2.2.2.2.2.2.2.2.2.2.1,d.2.2.2.2.2.2.2.2.2.2.2.1,d.2.2.2.2.2.2.2.2.2.2.2.2.1,d.2.2.2.2.2.2.2.2.2.2.2.2.2.1,d.2.2.2.2.2.2.2.2.2.2.2.2.2.2.1,d.2.2.2.2.2.2.2.2.2.2.2.2.2.2.2.1,d.2.2.2.2.2.2.2.2.2.2.2.2.2.2.2.2.1,d.2.2.2.2.2.2.2.2.2.2.2.2.2.2.2.2.2.1,d.2.2.2.2.2.2.2.2.2.2.2.2.2.2.2.2.2.2.1,d.2.2.2.2.2.2.2.2.2.2.2.2.2.2.2.2.2.2.2.1,d.2.2.2.2.2.2.2.2.2.2.2.2.2.2.2.2.2.2.2.2.1,d.2.2.2.2.2.2.2.2.2.2.2.2.2.2.2.2.2.2.2.2.2.1,d.2.2.2.2.2.2.2.2.2.2.2.2.2.2.2.2.2.2.2.2.2.2.1,d.2.2.2.2.2.2.2.2.2.2.2.2.2.2.2.2.2.2.2.2.2.2.2.1,((i:Nat):Int),()))
  (fun e=>e=.inl (w.1,w.2.1,w.2.2.1,w.2.2.2.1,())∨∃a w',e=.inr (w'.1,w'.2.1,w'.2.2.1,w'.2.2.2.1,a,())∧jY (n+1) w') (by
   rintro x rfl
   exact ⟨_,by simp only [kk,az,aP,tp,az,aA,aM,cond_false],.inl rfl⟩) (by
   rintro i x hi rfl
   have hr:=h.rings.1 _ (List.getElem_mem hi);have Yr:(w.1[i]).2.1.length≤1048576:=by have:=hr.2.1.2;omega
   simp only [kk,az,aP,tp,az,aA,aE hi,ax,cond_true,aF,List.getElem?_eq_getElem hi,Option.bind_some,aN (show i<4611686018427387904 by omega),zw (w.1[i]).2.1 ((k+1:Nat):Int) Yr]
   by_cases g1:(w.1[i]).1≤d.2.2.2.2.2.2.2.2.2.2.2.2.2.2.2.2.2.2.1
   ·rw [ak g1];exact .inr ⟨_,rfl,rfl⟩
   rw [aq g1]
   by_cases g2:(((k+1:Nat):Int),())∈(w.1[i]).2.1
   ·have e1:=IT hd (by omega) (w.1[i]).1 (w.1[i]).2.1 Yr;simp only [ak g2,Bool.not_true,cond_false,e1,Option.bind_some]
    cases hb:x8 d (w.1[i]).1 (w.1[i]).2.1
    ·have e2:(cR d (w.1[i]).1 (w.1[i]).2.1).2.2=false:=by unfold cR;rw [hb];rfl
     rw [e2];exact .inl ⟨_,rfl,.inr ⟨1,w,rfl,h.up (Nat.le_succ n)⟩⟩
    ·have e2:cR d (w.1[i]).1 (w.1[i]).2.1=(tP d (w.1[i]).1 (w.1[i]).2.1,fU d (w.1[i]).2.1 (cC d (w.1[i]).1),true):=by unfold cR;rw [hb];rfl
     rw [e2];have tX:=hb;unfold x8 at tX;simp only [Bool.and_eq_true,Bool.not_eq_true',decide_eq_true_eq] at tX;obtain ⟨_,b2,_,b4,_⟩:=tX;obtain ⟨m1,m2⟩:=R8 hd hr b4 b2 (by omega);obtain ⟨_,hP,_⟩:=Bs hd hr b4 b2 (by omega);have hdw:jY (n+1) (Ah w k (tP d (w.1[i]).1 (w.1[i]).2.1)):=(h.up (Nat.le_succ n)).Ah hk m1 (by rw [m2,hdd]);have e3:=pL w (by omega) hk (tP d (w.1[i]).1 (w.1[i]).2.1) (m2.trans wo);obtain ⟨w',l1,p1,p2,p3,p4,p5⟩:=QX hdw (by omega) d (cC d (w.1[i]).1) hr (uY hP).1;rw [wo] at l1;simp only [Bool.not_true,cond_false];rw [e3];simp only [Option.bind_some];rw [l1];simp only [cg];refine .inl ⟨_,rfl,.inr ⟨0,w',rfl,?_⟩⟩;have p5:w'.2.2.1.length≤w.2.2.1.length+5:=p5;exact { rings:=by rw [p1];exact hdw.rings,Ai:=by rw [p2];exact hdw.Ai,Gq:=by rw [p2];exact hdw.Gq,lets:=p4,GR:=by omega,num:=by rw [p3];exact hdw.num,nums:=by rw [p3];exact hdw.nums }
   ·simp only [aq g2,Bool.not_false,cond_true];exact .inr ⟨_,rfl,rfl⟩) rfl
 have he:aJ kk (w.1,w.2.1,w.2.2.1,w.2.2.2.1,((k+1:Nat):Int),d.1,d.2.1,d.2.2.1,d.2.2.2.1,d.2.2.2.2.1,d.2.2.2.2.2.1,d.2.2.2.2.2.2.1,d.2.2.2.2.2.2.2.1,d.2.2.2.2.2.2.2.2.1,d.2.2.2.2.2.2.2.2.2.1,d.2.2.2.2.2.2.2.2.2.2.1,d.2.2.2.2.2.2.2.2.2.2.2.1,d.2.2.2.2.2.2.2.2.2.2.2.2.1,d.2.2.2.2.2.2.2.2.2.2.2.2.2.1,d.2.2.2.2.2.2.2.2.2.2.2.2.2.2.1,d.2.2.2.2.2.2.2.2.2.2.2.2.2.2.2.1,d.2.2.2.2.2.2.2.2.2.2.2.2.2.2.2.2.1,d.2.2.2.2.2.2.2.2.2.2.2.2.2.2.2.2.2.1,d.2.2.2.2.2.2.2.2.2.2.2.2.2.2.2.2.2.2.1,d.2.2.2.2.2.2.2.2.2.2.2.2.2.2.2.2.2.2.2.1,d.2.2.2.2.2.2.2.2.2.2.2.2.2.2.2.2.2.2.2.2.1,d.2.2.2.2.2.2.2.2.2.2.2.2.2.2.2.2.2.2.2.2.2.1,d.2.2.2.2.2.2.2.2.2.2.2.2.2.2.2.2.2.2.2.2.2.2.1,d.2.2.2.2.2.2.2.2.2.2.2.2.2.2.2.2.2.2.2.2.2.2.2.1,(0:Int),())=some e:=he;rw [he];rcases hq with rfl | ⟨a,w',rfl,hw⟩
 ·exact ⟨1,w,rfl,h.up (Nat.le_succ n)⟩
 ·exact ⟨a,w',rfl,hw⟩
end Go.TM
