/- The world's life, as the reference plays it: deeds. -/
import Derived.Test.YtiljcjnnhkidbaaGreatOPHold
set_option linter.unusedSimpArgs false
set_option linter.unusedVariables false
namespace Go.TM
open Go
structure Jv (x:Gl):Prop where
 BU:1≤x.2.1∧x.2.1≤5
 N8:x.2.2.2.2.2.2.2.2.2.2.2.2.1.length≤20
 bun:x.2.2.2.2.2.2.2.2.2.2.2.2.2.2.2.2.1.length≤60
structure jM (n:Nat) (w:me):Prop where
 rings:(∀r∈w.1,oR r.1 r.2.1)∧w.1.length≤9
 Ad:w.2.1.length=5
 F6:∀k (hk:k<w.2.1.length),lD n w.2.1[k]∧(w.2.1[k]).1=((k+1:Nat):Int)
 lets:∀x∈w.2.2.1,Jv x
 Gx:w.2.2.1.length≤400*(n+1)
 num:w.2.2.2.1.length≤63*n
 nums:∀e∈w.2.2.2.1,Mh e
theorem jM.up {n n':Nat} {w:me} (h:jM n w) (hn:n≤n'):jM n' w:=
 { h with F6:=fun k hk=>⟨(h.F6 k hk).1.up hn,(h.F6 k hk).2⟩,Gx:=by have:=h.Gx;omega,num:=by have:=h.num;omega }
theorem jM.Ac {n:Nat} {w:me} (h:jM n w) {k:Nat} (hk:k<w.2.1.length) {d:bZ} (hd:lD n d) (h1:d.1=(w.2.1[k]).1):jM n (Ac w k d):=
 {
  rings:=h.rings
  Ad:=by show (w.2.1.set k d).length=5;rw [List.length_set];exact h.Ad
  F6:=fun j hj=>by
   have hj:j<(w.2.1.set k d).length:=hj;show lD n (w.2.1.set k d)[j]∧((w.2.1.set k d)[j]).1=_;rw [List.length_set] at hj;rw [List.getElem_set]
   split
   ·rename_i e;subst e;exact ⟨hd,h1.trans (h.F6 k hk).2⟩
   ·exact h.F6 j hj
  lets:=h.lets
  Gx:=h.Gx
  num:=h.num
  nums:=h.nums }
theorem jM.fE {n:Nat} {w:me} (h:jM n w) {l:List Gl} (h1:∀x∈l,Jv x) (h2:l.length≤400*(n+1)):jM n (fE w l):=
 { rings:=h.rings,Ad:=h.Ad,F6:=h.F6,lets:=h1,Gx:=h2,num:=h.num,nums:=h.nums }
theorem jM.xk {n:Nat} {w:me} (h:jM n w) {l:List xQ} (h2:l.length≤63*n) (h3:∀e∈l,Mh e):jM n (xk w l):=
 { rings:=h.rings,Ad:=h.Ad,F6:=h.F6,lets:=h.lets,Gx:=h.Gx,num:=h2,nums:=h3 }
theorem TJ {BU c:Int} {x:dY} (h:1≤BU∧BU≤5):Jv (Eh BU c x):=⟨h,Nat.zero_le _,Nat.zero_le _⟩
theorem II {BU c:Int} {t:mR} (h:1≤BU∧BU≤5) (ht:t.2.2.2.2.2.1.length≤20):Jv (xl BU c t):=⟨h,ht,Nat.zero_le _⟩
theorem Xb {BU c:Int} {b:ea} (h:1≤BU∧BU≤5) (hb:b.2.2.2.1.length≤60):Jv (Qp BU c b):=⟨h,Nat.zero_le _,hb⟩
theorem Mn {c:Int} {ms:eA} (hr:oR c ms) {id:Int} {l:aW}:∀x∈dq ms c id l,Jv x:=fun x hx=>by
 obtain ⟨m,hm,y,_,rfl⟩:=Qq hx;obtain ⟨k,hk,rfl⟩:=List.mem_iff_getElem.1 hm;exact TJ (hr.2.2 k hk hk).1
def lR (c:Int) (ms:eA) (t:mR) (l:aW):List xQ:=gi c ms (l.filter fun x=>decide (t.2.2.1<x.1))
theorem K6 (c:Int) (ms:eA) (t:mR) (l:aW):(lR c ms t l).length≤l.length:=by
 unfold lR;rw [n7];exact List.length_filter_le _ _
theorem Jw (w:me) (id:Int) (t nx:mR) (l:aW) (c:Int) (ms:eA) (h1:w.2.2.2.1.length≤1048576) (h2:l.length≤1048576) (h3:ms.length≤1048576) :
  aI ft (w.1,w.2.1,w.2.2.1,w.2.2.2.1,id,t.1,t.2.1,t.2.2.1,t.2.2.2.1,t.2.2.2.2.1,t.2.2.2.2.2.1,l,nx.1,nx.2.1,nx.2.2.1,nx.2.2.2.1,nx.2.2.2.2.1,nx.2.2.2.2.2.1,c,ms,(0:Int),())=some (.inl ((xk w (w.2.2.2.1++lR c ms t l)).1,(xk w (w.2.2.2.1++lR c ms t l)).2.1,(xk w (w.2.2.2.1++lR c ms t l)).2.2.1,(xk w (w.2.2.2.1++lR c ms t l)).2.2.2.1,id,l,nx.1,nx.2.1,nx.2.2.1,nx.2.2.2.1,nx.2.2.2.2.1,nx.2.2.2.2.2.1,c,ms,())):=by
 have l1:=ca (round:=ft) (e:=.inl ((xk w (w.2.2.2.1++lR c ms t l)).1,(xk w (w.2.2.2.1++lR c ms t l)).2.1,(xk w (w.2.2.2.1++lR c ms t l)).2.2.1,(xk w (w.2.2.2.1++lR c ms t l)).2.2.2.1,id,l,nx.1,nx.2.1,nx.2.2.1,nx.2.2.2.1,nx.2.2.2.2.1,nx.2.2.2.2.2.1,c,ms,())) l.length (fun k=>((xk w (w.2.2.2.1++lR c ms t (l.take k))).1,(xk w (w.2.2.2.1++lR c ms t (l.take k))).2.1,(xk w (w.2.2.2.1++lR c ms t (l.take k))).2.2.1,(xk w (w.2.2.2.1++lR c ms t (l.take k))).2.2.2.1,id,t.1,t.2.1,t.2.2.1,t.2.2.2.1,t.2.2.2.2.1,t.2.2.2.2.2.1,l,nx.1,nx.2.1,nx.2.2.1,nx.2.2.2.1,nx.2.2.2.2.1,nx.2.2.2.2.2.1,c,ms,((k:Nat):Int),())) (by
  simp only [ft,ba,aw,ll,aA,aM,cond_false,List.take_length]) (fun k hk=>by
  have hb:=K6 c ms t (l.take k);rw [List.length_take] at hb;have e:lR c ms t (l.take (k+1))=lR c ms t (l.take k)++(bif decide (t.2.2.1<(l[k]).1) then [(1,c,ms,(l[k]).1,(l[k]).2.1,(l[k]).2.2.1,(l[k]).2.2.2.1,[],())] else []):=by
   unfold lR gi;rw [List.take_succ_eq_append_getElem hk,List.filter_append,List.map_append,List.filter_cons,List.filter_nil]
   cases decide (t.2.2.1<(l[k]).1)<;>rfl
  simp only [xk,e,ft,ba,aw,ll,aA,aD hk,ax,cond_true,aF,fW hk,List.getElem?_eq_getElem hk,Option.bind_some,mH c ms h3,List.nil_append,aT (show (0+(w.2.2.2.1++lR c ms t (l.take k)).length)*104≤lim by rw [List.length_append];unfold lim;omega),aT (show ((w.2.2.2.1++lR c ms t (l.take k)).length+1)*104≤lim by rw [List.length_append];unfold lim;omega),de,aN (show k<4611686018427387904 by omega)]
  cases decide (t.2.2.1<(l[k]).1)
  ·simp only [cond_false,List.append_nil]
  ·simp only [cond_true,List.append_assoc])
 have l1:aI ft ((xk w (w.2.2.2.1++lR c ms t (l.take 0))).1,(xk w (w.2.2.2.1++lR c ms t (l.take 0))).2.1,(xk w (w.2.2.2.1++lR c ms t (l.take 0))).2.2.1,(xk w (w.2.2.2.1++lR c ms t (l.take 0))).2.2.2.1,id,t.1,t.2.1,t.2.2.1,t.2.2.2.1,t.2.2.2.2.1,t.2.2.2.2.2.1,l,nx.1,nx.2.1,nx.2.2.1,nx.2.2.2.1,nx.2.2.2.2.1,nx.2.2.2.2.2.1,c,ms,(0:Int),())=_:=l1;rw [show lR c ms t (l.take 0)=[] from rfl,List.append_nil] at l1;exact l1
theorem F7 {n:Nat} {w:me} (h:jM n w) (hn:n≤99) {k:Nat} (hk:k<w.2.1.length) (t:mR) (ht:t.2.2.2.2.2.1.length≤1048576):∃a w',ia w.1 w.2.1 w.2.2.1 w.2.2.2.1 ((k+1:Nat):Int) t.1 t.2.1 t.2.2.1 t.2.2.2.1 t.2.2.2.2.1 t.2.2.2.2.2.1=some (a,w'.1,w'.2.1,w'.2.2.1,w'.2.2.2.1,())∧jM (n+1) w':=by
 have hf:=h.Gx;have arG:=h.num;have h5:=h.Ad;obtain ⟨r,said,nx,b,e1,_,g,g1,gf,gt⟩:=K0 (h.F6 k hk).1 (by omega) t ht;unfold ia;delta az aw aP aA bA;simp only [wg (show k<1000 by omega),ax,cond_true,aF,List.getElem?_eq_getElem hk,Option.bind_some,e1]
 cases b
 ·exact ⟨1,w,rfl,h.up (Nat.le_succ n)⟩
 obtain ⟨hi,hT,m,j,H,hr⟩:=gt rfl;have hm1:=H.nq;have hlen:said.length≤63:=by
  rw [H.said,List.length_append,zC];have h1:(wN t (aJ w.2.1[k]).2.2.2.1).length≤(aJ w.2.1[k]).2.2.2.1.length:=List.length_filter_le _ _;have h2:=(dv _ (uT ((h.F6 k hk).1.small (by omega)) hi).1.items).1;have:=H.Gx.1;omega
 have hq:jM (n+1) (Ac w k r):=(h.up (Nat.le_succ n)).Ac hk g g1;have arH:r.1=((k+1:Nat):Int):=g1.trans (h.F6 k hk).2;have e3:=py w (by omega) hk r arH;have Xc:r.2.2.2.1=m.2.1∧r.2.2.2.2.1=m.2.2.1:=by
  rw [hr];unfold rV;obtain ⟨q,_,e,_⟩:=Oc (m:=aJ (iV w.2.1[k] m)) hm1;rw [e];exact ⟨rfl,rfl⟩
 have hRP:oR r.2.2.2.1 r.2.2.2.2.1:=by rw [Xc.1,Xc.2];exact hm1.ring
 have Ga:(((k+1:Nat):Int),())∈r.2.2.2.2.1:=by
  have h1:=hm1.mem;rw [H.id.1] at h1;have h2:=(uT ((h.F6 k hk).1.small (by omega)) hi).2.1;have h2:(aJ w.2.1[k]).1=(w.2.1[k]).1:=h2;rw [h2,(h.F6 k hk).2] at h1;rw [Xc.2];exact h1
 have e4:=Jw (Ac w k r) ((k+1:Nat):Int) t nx said r.2.2.2.1 r.2.2.2.2.1 (by show w.2.2.2.1.length≤_;omega) (by omega) (by have:=hRP.2.1.2;omega);have hN:=K6 r.2.2.2.1 r.2.2.2.2.1 t said;generalize Wm:xk (Ac w k r) ((Ac w k r).2.2.2.1++lR r.2.2.2.1 r.2.2.2.2.1 t said)=w1 at e4;have Uy:jM (n+1) w1:=by
  rw [←Wm];refine hq.xk ?_ fun e he => ?_
  ·show (w.2.2.2.1++_).length≤_;rw [List.length_append];omega
  ·have he:e∈w.2.2.2.1++lR r.2.2.2.1 r.2.2.2.2.1 t said:=he;rcases List.mem_append.1 he with he | he
   ·exact h.nums e he
   ·refine Mj hRP.2.1.2 (fun x hx => ?_) e he;have hx:=(List.mem_filter.1 hx).1;rw [H.said] at hx;have hmQ:=(uT ((h.F6 k hk).1.small (by omega)) hi).1;rcases List.mem_append.1 hx with hx | hx
    ·exact (rT hmQ.items x (W0 hx)).2.2.2
    ·exact (F4 ⟨hT.2.2.1.1,H.Gx.2.2⟩ hmQ.id H.Gx.2.1 hmQ.short x hx).2.2.2
 have p3:w1.2.2.1=w.2.2.1:=by rw [←Wm];rfl
 have e5:=K4 w1 r.2.2.2.1 r.2.2.2.2.1 ((k+1:Nat):Int) said hRP.2.1.2 (by rw [p3];omega) (by omega);have htl:=zH r.2.2.2.2.1 r.2.2.2.1 ((k+1:Nat):Int) hRP.2.1.2 said;obtain ⟨BU,Y0,e6⟩:=K5 (fE w1 (w1.2.2.1++dq r.2.2.2.2.1 r.2.2.2.1 ((k+1:Nat):Int) said)) hRP Ga nx (by show (w1.2.2.1++dq _ _ _ _).length≤_;rw [List.length_append,p3];omega) (Nat.le_trans H.tq.2.2.2.2.2.1 (by decide));refine ⟨0,fE (fE w1 (w1.2.2.1++dq r.2.2.2.2.1 r.2.2.2.1 ((k+1:Nat):Int) said)) ((w1.2.2.1++dq r.2.2.2.2.1 r.2.2.2.1 ((k+1:Nat):Int) said)++[xl BU r.2.2.2.1 nx]),?_,?_⟩
 ·simp only [Bool.not_true,cond_false];rw [e3];simp only [Option.bind_some];rw [e4];simp only [bW,Option.bind_some];rw [e5];simp only [Option.bind_some];rw [e6];rfl
 ·refine jM.fE (w:=fE w1 _) (Uy.fE (fun x hx => ?_) ?_) (fun x hx => ?_) ?_
  ·rcases List.mem_append.1 hx with hx | hx
   ·exact Uy.lets x hx
   ·exact Mn hRP x hx
  ·rw [List.length_append,p3];omega
  ·rcases List.mem_append.1 hx with hx | hx
   ·rcases List.mem_append.1 hx with hx | hx
    ·exact Uy.lets x hx
    ·exact Mn hRP x hx
   ·rw [List.mem_singleton] at hx;subst hx;exact II Y0 H.tq.2.2.2.2.2.1
  ·rw [List.length_append,List.length_append,p3,List.length_singleton];omega
theorem TL {d:bZ} {ms:eA} {b x:ea} (h:x∈jN d ms b):x=b:=by
 obtain ⟨_,_,rfl⟩:=List.mem_map.1 h;rfl
theorem TN (d:bZ) (ms:eA) (b:ea) {j:Nat} (hj:j<ms.length) (mK:¬ms[j].1=d.1):(jN d (ms.take j) b).length<(jN d ms b).length:=by
 have h1:=CQ d ms b hj;rw [decide_eq_false mK] at h1;have h2:(jN d (ms.take (j+1)) b).length=(jN d (ms.take j) b).length+1:=by rw [h1];simp
 have h3:(jN d (ms.take (j+1)) b).length≤(jN d ms b).length:=by
  unfold jN;rw [List.length_map,List.length_map];exact ((List.take_sublist (j+1) ms).filter _).length_le
 omega
theorem Qr {n:Nat} {w:me} (h:jM n w) (hn:n≤100) (d:bZ) (b:ea) {c:Int} {ms:eA} (hr:oR c ms) (hb:b.2.2.2.1.length≤60) :
  ∃w':me,aI jY (w.1,w.2.1,w.2.2.1,w.2.2.2.1,d.1,c,ms,jN d ms b,(0:Int),(0:Int),())=some (.inl (w'.1,w'.2.1,w'.2.2.1,w'.2.2.2.1,()))∧w'.1=w.1∧w'.2.1=w.2.1∧w'.2.2.2=w.2.2.2∧(∀x∈w'.2.2.1,Jv x)∧w'.2.2.1.length≤w.2.2.1.length+5:=by
 have hf:=h.Gx;have hl:=hr.2.1.2;have ht:=K3 d ms b;obtain ⟨e,he,l,rfl,g1,g2⟩:=dA (round:=jY) (x:=(w.1,w.2.1,w.2.2.1,w.2.2.2.1,d.1,c,ms,jN d ms b,(0:Int),((0:Nat):Int),())) ms.length
  (fun j x=>∃l,x=((fE w l).1,(fE w l).2.1,(fE w l).2.2.1,(fE w l).2.2.2.1,d.1,c,ms,jN d ms b,(((jN d (ms.take j) b).length:Nat):Int),((j:Nat):Int),())∧(∀x∈l,Jv x)∧l.length≤w.2.2.1.length+j)
  (fun e=>∃l,e=.inl ((fE w l).1,(fE w l).2.1,(fE w l).2.2.1,(fE w l).2.2.2.1,())∧(∀x∈l,Jv x)∧l.length≤w.2.2.1.length+ms.length) (by
   rintro x ⟨l,rfl,g1,g2⟩
   exact ⟨_,by simp only [jY,bC,tj,aw,aA,aM,cond_false],l,rfl,g1,g2⟩) (by
   rintro j x hj ⟨l,rfl,g1,g2⟩
   have e1:=CQ d ms b hj;simp only [jY,bC,tj,aw,aA,aD hj,ax,cond_true,aF,List.getElem?_eq_getElem hj,Option.bind_some,aN (show j<4611686018427387904 by omega)]
   by_cases g:ms[j].1=d.1
   ·rw [ak g];rw [decide_eq_true g] at e1;have e2:(jN d (ms.take (j+1)) b).length=(jN d (ms.take j) b).length:=by rw [e1];simp
    refine .inr ⟨_,rfl,l,?_,g1,by omega⟩;rw [e2]
   ·rw [aq g];have hm:=TN d ms b hj g;have hx:(jN d ms b)[(jN d (ms.take j) b).length]=b:=TL (List.getElem_mem hm);have hs:=Eg (fE w l) (by show l.length≤_;omega) (Qp ms[j].1 c b);have hs:eR w.1 w.2.1 l w.2.2.2.1 3 ms[j].1 c 0 0 0 ByteArray.empty 0 0 0 0 0 [] b.1 b.2.1 b.2.2.1 b.2.2.2.1=_:=hs;have e2:(jN d (ms.take (j+1)) b).length=(jN d (ms.take j) b).length+1:=by rw [e1,decide_eq_false g];simp
    simp only [Bool.not_false,cond_true,fW hm,List.getElem?_eq_getElem hm,Option.bind_some,hx,fE] at hs ⊢;rw [hs];refine .inr ⟨_,rfl,l++[Qp ms[j].1 c b],?_,fun x hx => ?_,by rw [List.length_append,List.length_singleton];omega⟩
    ·rw [e2,aN (show (jN d (ms.take j) b).length<4611686018427387904 by omega)]
    ·rcases List.mem_append.1 hx with hx | hx
     ·exact g1 x hx
     ·rw [List.mem_singleton] at hx;subst hx;exact Xb (hr.2.2 j hj hj).1 hb) ⟨w.2.2.1,rfl,h.lets,by omega⟩
 exact ⟨fE w l,he,rfl,rfl,rfl,g1,by show l.length≤_;omega⟩
theorem Qs {n:Nat} {w:me} (h:jM n w) (hn:n≤98) {k:Nat} (hk:k<w.2.1.length):∃a w',uo w.1 w.2.1 w.2.2.1 w.2.2.2.1 ((k+1:Nat):Int)=some (a,w'.1,w'.2.1,w'.2.2.1,w'.2.2.2.1,())∧jM (n+1) w':=by
 have hf:=h.Gx;have h5:=h.Ad;have hrl:=h.rings.2;obtain ⟨hd,wi⟩:=h.F6 k hk;generalize hdd:w.2.1[k]=d at hd wi;unfold uo;delta bD aA;simp only [wg (show k<1000 by omega),ax,cond_true,aF,List.getElem?_eq_getElem hk,Option.bind_some,hdd];obtain ⟨e,he,hq⟩:=dA (round:=jZ) (x:=(w.1,w.2.1,w.2.2.1,w.2.2.2.1,((k+1:Nat):Int),d.1,d.2.1,d.2.2.1,d.2.2.2.1,d.2.2.2.2.1,d.2.2.2.2.2.1,d.2.2.2.2.2.2.1,d.2.2.2.2.2.2.2.1,d.2.2.2.2.2.2.2.2.1,d.2.2.2.2.2.2.2.2.2.1,d.2.2.2.2.2.2.2.2.2.2.1,d.2.2.2.2.2.2.2.2.2.2.2.1,d.2.2.2.2.2.2.2.2.2.2.2.2.1,d.2.2.2.2.2.2.2.2.2.2.2.2.2.1,d.2.2.2.2.2.2.2.2.2.2.2.2.2.2.1,d.2.2.2.2.2.2.2.2.2.2.2.2.2.2.2.1,d.2.2.2.2.2.2.2.2.2.2.2.2.2.2.2.2.1,d.2.2.2.2.2.2.2.2.2.2.2.2.2.2.2.2.2.1,d.2.2.2.2.2.2.2.2.2.2.2.2.2.2.2.2.2.2.1,d.2.2.2.2.2.2.2.2.2.2.2.2.2.2.2.2.2.2.2.1,d.2.2.2.2.2.2.2.2.2.2.2.2.2.2.2.2.2.2.2.2.1,d.2.2.2.2.2.2.2.2.2.2.2.2.2.2.2.2.2.2.2.2.2.1,d.2.2.2.2.2.2.2.2.2.2.2.2.2.2.2.2.2.2.2.2.2.2.1,d.2.2.2.2.2.2.2.2.2.2.2.2.2.2.2.2.2.2.2.2.2.2.2.1,((0:Nat):Int),())) w.1.length
  (fun i x=>x=(w.1,w.2.1,w.2.2.1,w.2.2.2.1,((k+1:Nat):Int),d.1,d.2.1,d.2.2.1,d.2.2.2.1,d.2.2.2.2.1,d.2.2.2.2.2.1,d.2.2.2.2.2.2.1,d.2.2.2.2.2.2.2.1,d.2.2.2.2.2.2.2.2.1,d.2.2.2.2.2.2.2.2.2.1,d.2.2.2.2.2.2.2.2.2.2.1,d.2.2.2.2.2.2.2.2.2.2.2.1,d.2.2.2.2.2.2.2.2.2.2.2.2.1,d.2.2.2.2.2.2.2.2.2.2.2.2.2.1,d.2.2.2.2.2.2.2.2.2.2.2.2.2.2.1,d.2.2.2.2.2.2.2.2.2.2.2.2.2.2.2.1,d.2.2.2.2.2.2.2.2.2.2.2.2.2.2.2.2.1,d.2.2.2.2.2.2.2.2.2.2.2.2.2.2.2.2.2.1,d.2.2.2.2.2.2.2.2.2.2.2.2.2.2.2.2.2.2.1,d.2.2.2.2.2.2.2.2.2.2.2.2.2.2.2.2.2.2.2.1,d.2.2.2.2.2.2.2.2.2.2.2.2.2.2.2.2.2.2.2.2.1,d.2.2.2.2.2.2.2.2.2.2.2.2.2.2.2.2.2.2.2.2.2.1,d.2.2.2.2.2.2.2.2.2.2.2.2.2.2.2.2.2.2.2.2.2.2.1,d.2.2.2.2.2.2.2.2.2.2.2.2.2.2.2.2.2.2.2.2.2.2.2.1,((i:Nat):Int),()))
  (fun e=>e=.inl (w.1,w.2.1,w.2.2.1,w.2.2.2.1,())∨∃a w',e=.inr (w'.1,w'.2.1,w'.2.2.1,w'.2.2.2.1,a,())∧jM (n+1) w') (by
   rintro x rfl
   exact ⟨_,by simp only [jZ,az,aP,tk,az,aA,aM,cond_false],.inl rfl⟩) (by
   rintro i x hi rfl
   have hr:=h.rings.1 _ (List.getElem_mem hi);have Xz:(w.1[i]).2.1.length≤1048576:=by have:=hr.2.1.2;omega
   simp only [jZ,az,aP,tk,az,aA,aD hi,ax,cond_true,aF,List.getElem?_eq_getElem hi,Option.bind_some,aN (show i<4611686018427387904 by omega),zp (w.1[i]).2.1 ((k+1:Nat):Int) Xz]
   by_cases g1:(w.1[i]).1≤d.2.2.2.2.2.2.2.2.2.2.2.2.2.2.2.2.2.2.1
   ·rw [ak g1];exact .inr ⟨_,rfl,rfl⟩
   rw [aq g1]
   by_cases g2:(((k+1:Nat):Int),())∈(w.1[i]).2.1
   ·have e1:=W7 hd (by omega) (w.1[i]).1 (w.1[i]).2.1 Xz;simp only [ak g2,Bool.not_true,cond_false,e1,Option.bind_some]
    cases hb:Rl d (w.1[i]).1 (w.1[i]).2.1
    ·have e2:(jJ d (w.1[i]).1 (w.1[i]).2.1).2.2=false:=by unfold jJ;rw [hb];rfl
     rw [e2];exact .inl ⟨_,rfl,.inr ⟨1,w,rfl,h.up (Nat.le_succ n)⟩⟩
    ·have e2:jJ d (w.1[i]).1 (w.1[i]).2.1=(zF d (w.1[i]).1 (w.1[i]).2.1,jN d (w.1[i]).2.1 (qO d (w.1[i]).1),true):=by unfold jJ;rw [hb];rfl
     rw [e2];have tS:=hb;unfold Rl at tS;simp only [Bool.and_eq_true,Bool.not_eq_true',decide_eq_true_eq] at tS;obtain ⟨_,b2,_,b4,_⟩:=tS;obtain ⟨m1,m2⟩:=Rm hd hr b4 b2 (by omega);obtain ⟨_,hP,_⟩:=Qm hd hr b4 b2 (by omega);have hdw:jM (n+1) (Ac w k (zF d (w.1[i]).1 (w.1[i]).2.1)):=(h.up (Nat.le_succ n)).Ac hk m1 (by rw [m2,hdd]);have e3:=py w (by omega) hk (zF d (w.1[i]).1 (w.1[i]).2.1) (m2.trans wi);obtain ⟨w',l1,p1,p2,p3,p4,p5⟩:=Qr hdw (by omega) d (qO d (w.1[i]).1) hr (Fm hP).1;rw [wi] at l1;simp only [Bool.not_true,cond_false];rw [e3];simp only [Option.bind_some];rw [l1];simp only [bW];refine .inl ⟨_,rfl,.inr ⟨0,w',rfl,?_⟩⟩;have p5:w'.2.2.1.length≤w.2.2.1.length+5:=p5;exact { rings:=by rw [p1];exact hdw.rings,Ad:=by rw [p2];exact hdw.Ad,F6:=by rw [p2];exact hdw.F6,lets:=p4,Gx:=by omega,num:=by rw [p3];exact hdw.num,nums:=by rw [p3];exact hdw.nums }
   ·simp only [aq g2,Bool.not_false,cond_true];exact .inr ⟨_,rfl,rfl⟩) rfl
 have he:aI jZ (w.1,w.2.1,w.2.2.1,w.2.2.2.1,((k+1:Nat):Int),d.1,d.2.1,d.2.2.1,d.2.2.2.1,d.2.2.2.2.1,d.2.2.2.2.2.1,d.2.2.2.2.2.2.1,d.2.2.2.2.2.2.2.1,d.2.2.2.2.2.2.2.2.1,d.2.2.2.2.2.2.2.2.2.1,d.2.2.2.2.2.2.2.2.2.2.1,d.2.2.2.2.2.2.2.2.2.2.2.1,d.2.2.2.2.2.2.2.2.2.2.2.2.1,d.2.2.2.2.2.2.2.2.2.2.2.2.2.1,d.2.2.2.2.2.2.2.2.2.2.2.2.2.2.1,d.2.2.2.2.2.2.2.2.2.2.2.2.2.2.2.1,d.2.2.2.2.2.2.2.2.2.2.2.2.2.2.2.2.1,d.2.2.2.2.2.2.2.2.2.2.2.2.2.2.2.2.2.1,d.2.2.2.2.2.2.2.2.2.2.2.2.2.2.2.2.2.2.1,d.2.2.2.2.2.2.2.2.2.2.2.2.2.2.2.2.2.2.2.1,d.2.2.2.2.2.2.2.2.2.2.2.2.2.2.2.2.2.2.2.2.1,d.2.2.2.2.2.2.2.2.2.2.2.2.2.2.2.2.2.2.2.2.2.1,d.2.2.2.2.2.2.2.2.2.2.2.2.2.2.2.2.2.2.2.2.2.2.1,d.2.2.2.2.2.2.2.2.2.2.2.2.2.2.2.2.2.2.2.2.2.2.2.1,(0:Int),())=some e:=he;rw [he];rcases hq with rfl | ⟨a,w',rfl,hw⟩
 ·exact ⟨1,w,rfl,h.up (Nat.le_succ n)⟩
 ·exact ⟨a,w',rfl,hw⟩
end Go.TM
