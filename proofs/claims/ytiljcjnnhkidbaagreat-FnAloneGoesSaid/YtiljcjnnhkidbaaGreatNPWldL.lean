/- The world's life, as the reference plays it: deeds. -/
import Derived.Test.YtiljcjnnhkidbaaGreatNPHold
set_option linter.unusedSimpArgs false
set_option linter.unusedVariables false
namespace Go.TM
open Go
structure JU (x:GL):Prop where
 Cb:1≤x.2.1∧x.2.1≤5
 Lx:x.2.2.2.2.2.2.2.2.2.2.2.2.1.length≤20
 bun:x.2.2.2.2.2.2.2.2.2.2.2.2.2.2.2.2.1.length≤60
structure jV (n:Nat) (w:mj):Prop where
 rings:(∀r∈w.1,lU r.1 r.2.1)∧w.1.length≤9
 Am:w.2.1.length=5
 Gs:∀k (hk:k<w.2.1.length),lI n w.2.1[k]∧(w.2.1[k]).1=((k+1:Nat):Int)
 lets:∀x∈w.2.2.1,JU x
 GK:w.2.2.1.length≤400*(n+1)
 num:w.2.2.2.1.length≤63*n
 nums:∀e∈w.2.2.2.1,OU e
theorem jV.up {n n':Nat} {w:mj} (h:jV n w) (hn:n≤n'):jV n' w:=
 { h with Gs:=fun k hk=>⟨(h.Gs k hk).1.up hn,(h.Gs k hk).2⟩,GK:=by have:=h.GK;omega,num:=by have:=h.num;omega }
theorem jV.Al {n:Nat} {w:mj} (h:jV n w) {k:Nat} (hk:k<w.2.1.length) {d:bY} (hd:lI n d) (h1:d.1=(w.2.1[k]).1):jV n (Al w k d):=
 {
  rings:=h.rings
  Am:=by show (w.2.1.set k d).length=5;rw [List.length_set];exact h.Am
  Gs:=fun j hj=>by
   have hj:j<(w.2.1.set k d).length:=hj;show lI n (w.2.1.set k d)[j]∧((w.2.1.set k d)[j]).1=_;rw [List.length_set] at hj;rw [List.getElem_set]
   split
   ·rename_i e;subst e;exact ⟨hd,h1.trans (h.Gs k hk).2⟩
   ·exact h.Gs j hj
  lets:=h.lets
  GK:=h.GK
  num:=h.num
  nums:=h.nums }
theorem jV.fF {n:Nat} {w:mj} (h:jV n w) {l:List GL} (h1:∀x∈l,JU x) (h2:l.length≤400*(n+1)):jV n (fF w l):=
 { rings:=h.rings,Am:=h.Am,Gs:=h.Gs,lets:=h1,GK:=h2,num:=h.num,nums:=h.nums }
theorem jV.xG {n:Nat} {w:mj} (h:jV n w) {l:List wu} (h2:l.length≤63*n) (h3:∀e∈l,OU e):jV n (xG w l):=
 { rings:=h.rings,Am:=h.Am,Gs:=h.Gs,lets:=h.lets,GK:=h.GK,num:=h2,nums:=h3 }
theorem Uz {Cb c:Int} {x:dY} (h:1≤Cb∧Cb≤5):JU (EB Cb c x):=⟨h,Nat.zero_le _,Nat.zero_le _⟩
theorem I7 {Cb c:Int} {t:kJ} (h:1≤Cb∧Cb≤5) (ht:t.2.2.2.2.2.1.length≤20):JU (xH Cb c t):=⟨h,ht,Nat.zero_le _⟩
theorem YE {Cb c:Int} {b:ea} (h:1≤Cb∧Cb≤5) (hb:b.2.2.2.1.length≤60):JU (Q5 Cb c b):=⟨h,Nat.zero_le _,hb⟩
theorem MZ {c:Int} {ms:dG} (hr:lU c ms) {id:Int} {l:aU}:∀x∈dz ms c id l,JU x:=fun x hx=>by
 obtain ⟨m,hm,y,_,rfl⟩:=Q6 hx;obtain ⟨k,hk,rfl⟩:=List.mem_iff_getElem.1 hm;exact Uz (hr.2.2 k hk hk).1
def lW (c:Int) (ms:dG) (t:kJ) (l:aU):List wu:=fE c ms (l.filter fun x=>decide (t.2.2.1<x.1))
theorem LH (c:Int) (ms:dG) (t:kJ) (l:aU):(lW c ms t l).length≤l.length:=by
 unfold lW;rw [oz];exact List.length_filter_le _ _
theorem JV (w:mj) (id:Int) (t nx:kJ) (l:aU) (c:Int) (ms:dG) (h1:w.2.2.2.1.length≤1048576) (h2:l.length≤1048576) (h3:ms.length≤1048576) :
  aJ ft (w.1,w.2.1,w.2.2.1,w.2.2.2.1,id,t.1,t.2.1,t.2.2.1,t.2.2.2.1,t.2.2.2.2.1,t.2.2.2.2.2.1,l,nx.1,nx.2.1,nx.2.2.1,nx.2.2.2.1,nx.2.2.2.2.1,nx.2.2.2.2.2.1,c,ms,(0:Int),())=some (.inl ((xG w (w.2.2.2.1++lW c ms t l)).1,(xG w (w.2.2.2.1++lW c ms t l)).2.1,(xG w (w.2.2.2.1++lW c ms t l)).2.2.1,(xG w (w.2.2.2.1++lW c ms t l)).2.2.2.1,id,l,nx.1,nx.2.1,nx.2.2.1,nx.2.2.2.1,nx.2.2.2.2.1,nx.2.2.2.2.2.1,c,ms,())):=by
 have l1:=ck (round:=ft) (e:=.inl ((xG w (w.2.2.2.1++lW c ms t l)).1,(xG w (w.2.2.2.1++lW c ms t l)).2.1,(xG w (w.2.2.2.1++lW c ms t l)).2.2.1,(xG w (w.2.2.2.1++lW c ms t l)).2.2.2.1,id,l,nx.1,nx.2.1,nx.2.2.1,nx.2.2.2.1,nx.2.2.2.2.1,nx.2.2.2.2.2.1,c,ms,())) l.length (fun k=>((xG w (w.2.2.2.1++lW c ms t (l.take k))).1,(xG w (w.2.2.2.1++lW c ms t (l.take k))).2.1,(xG w (w.2.2.2.1++lW c ms t (l.take k))).2.2.1,(xG w (w.2.2.2.1++lW c ms t (l.take k))).2.2.2.1,id,t.1,t.2.1,t.2.2.1,t.2.2.2.1,t.2.2.2.2.1,t.2.2.2.2.2.1,l,nx.1,nx.2.1,nx.2.2.1,nx.2.2.2.1,nx.2.2.2.2.1,nx.2.2.2.2.2.1,c,ms,((k:Nat):Int),())) (by
  simp only [ft,ba,aw,lx,aA,aN,cond_false,List.take_length]) (fun k hk=>by
  have hb:=LH c ms t (l.take k);rw [List.length_take] at hb;have e:lW c ms t (l.take (k+1))=lW c ms t (l.take k)++(bif decide (t.2.2.1<(l[k]).1) then [(1,c,ms,(l[k]).1,(l[k]).2.1,(l[k]).2.2.1,(l[k]).2.2.2.1,[],())] else []):=by
   unfold lW fE;rw [List.take_succ_eq_append_getElem hk,List.filter_append,List.map_append,List.filter_cons,List.filter_nil]
   cases decide (t.2.2.1<(l[k]).1)<;>rfl
  simp only [xG,e,ft,ba,aw,lx,aA,aF hk,ax,cond_true,aG,fZ hk,List.getElem?_eq_getElem hk,Option.bind_some,mR c ms h3,List.nil_append,aS (show (0+(w.2.2.2.1++lW c ms t (l.take k)).length)*104≤lim by rw [List.length_append];unfold lim;omega),aS (show ((w.2.2.2.1++lW c ms t (l.take k)).length+1)*104≤lim by rw [List.length_append];unfold lim;omega),dg,aM (show k<4611686018427387904 by omega)]
  cases decide (t.2.2.1<(l[k]).1)
  ·simp only [cond_false,List.append_nil]
  ·simp only [cond_true,List.append_assoc])
 have l1:aJ ft ((xG w (w.2.2.2.1++lW c ms t (l.take 0))).1,(xG w (w.2.2.2.1++lW c ms t (l.take 0))).2.1,(xG w (w.2.2.2.1++lW c ms t (l.take 0))).2.2.1,(xG w (w.2.2.2.1++lW c ms t (l.take 0))).2.2.2.1,id,t.1,t.2.1,t.2.2.1,t.2.2.2.1,t.2.2.2.2.1,t.2.2.2.2.2.1,l,nx.1,nx.2.1,nx.2.2.1,nx.2.2.2.1,nx.2.2.2.2.1,nx.2.2.2.2.2.1,c,ms,(0:Int),())=_:=l1;rw [show lW c ms t (l.take 0)=[] from rfl,List.append_nil] at l1;exact l1
theorem Gt {n:Nat} {w:mj} (h:jV n w) (hn:n≤99) {k:Nat} (hk:k<w.2.1.length) (t:kJ) (ht:t.2.2.2.2.2.1.length≤1048576):∃a w',iq w.1 w.2.1 w.2.2.1 w.2.2.2.1 ((k+1:Nat):Int) t.1 t.2.1 t.2.2.1 t.2.2.2.1 t.2.2.2.2.1 t.2.2.2.2.2.1=some (a,w'.1,w'.2.1,w'.2.2.1,w'.2.2.2.1,())∧jV (n+1) w':=by
 have hf:=h.GK;have asW:=h.num;have h5:=h.Am;obtain ⟨r,said,nx,b,e1,_,g,g1,gf,gt⟩:=Ly (h.Gs k hk).1 (by omega) t ht;unfold iq;delta az aw aT aA bt;simp only [wA (show k<1000 by omega),ax,cond_true,aG,List.getElem?_eq_getElem hk,Option.bind_some,e1]
 cases b
 ·exact ⟨1,w,rfl,h.up (Nat.le_succ n)⟩
 obtain ⟨hi,hT,m,j,H,hr⟩:=gt rfl;have hm1:=H.nq;have hlen:said.length≤63:=by
  rw [H.said,List.length_append,qZ];have h1:(xa t (aE w.2.1[k]).2.2.2.1).length≤(aE w.2.1[k]).2.2.2.1.length:=List.length_filter_le _ _;have h2:=(dm _ (ve ((h.Gs k hk).1.small (by omega)) hi).1.items).1;have:=H.GK.1;omega
 have hq:jV (n+1) (Al w k r):=(h.up (Nat.le_succ n)).Al hk g g1;have asX:r.1=((k+1:Nat):Int):=g1.trans (h.Gs k hk).2;have e3:=pR w (by omega) hk r asX;have YF:r.2.2.2.1=m.2.1∧r.2.2.2.2.1=m.2.2.1:=by
  rw [hr];unfold tU;obtain ⟨q,_,e,_⟩:=OW (m:=aE (fA w.2.1[k] m)) hm1;rw [e];exact ⟨rfl,rfl⟩
 have hRP:lU r.2.2.2.1 r.2.2.2.2.1:=by rw [YF.1,YF.2];exact hm1.ring
 have Gw:(((k+1:Nat):Int),())∈r.2.2.2.2.1:=by
  have h1:=hm1.mem;rw [H.id.1] at h1;have h2:=(ve ((h.Gs k hk).1.small (by omega)) hi).2.1;have h2:(aE w.2.1[k]).1=(w.2.1[k]).1:=h2;rw [h2,(h.Gs k hk).2] at h1;rw [YF.2];exact h1
 have e4:=JV (Al w k r) ((k+1:Nat):Int) t nx said r.2.2.2.1 r.2.2.2.2.1 (by show w.2.2.2.1.length≤_;omega) (by omega) (by have:=hRP.2.1.2;omega);have hN:=LH r.2.2.2.1 r.2.2.2.2.1 t said;generalize Xa:xG (Al w k r) ((Al w k r).2.2.2.1++lW r.2.2.2.1 r.2.2.2.2.1 t said)=w1 at e4;have Vs:jV (n+1) w1:=by
  rw [←Xa];refine hq.xG ?_ fun e he => ?_
  ·show (w.2.2.2.1++_).length≤_;rw [List.length_append];omega
  ·have he:e∈w.2.2.2.1++lW r.2.2.2.1 r.2.2.2.2.1 t said:=he;rcases List.mem_append.1 he with he | he
   ·exact h.nums e he
   ·refine MU hRP.2.1.2 (fun x hx => ?_) e he;have hx:=(List.mem_filter.1 hx).1;rw [H.said] at hx;have hmQ:=(ve ((h.Gs k hk).1.small (by omega)) hi).1;rcases List.mem_append.1 hx with hx | hx
    ·exact (sg hmQ.items x (Yt hx)).2.2.2
    ·exact (Gp ⟨hT.2.2.1.1,H.GK.2.2⟩ hmQ.id H.GK.2.1 hmQ.short x hx).2.2.2
 have p3:w1.2.2.1=w.2.2.1:=by rw [←Xa];rfl
 have e5:=LF w1 r.2.2.2.1 r.2.2.2.2.1 ((k+1:Nat):Int) said hRP.2.1.2 (by rw [p3];omega) (by omega);have htl:=zT r.2.2.2.2.1 r.2.2.2.1 ((k+1:Nat):Int) hRP.2.1.2 said;obtain ⟨Cb,hto,e6⟩:=LG (fF w1 (w1.2.2.1++dz r.2.2.2.2.1 r.2.2.2.1 ((k+1:Nat):Int) said)) hRP Gw nx (by show (w1.2.2.1++dz _ _ _ _).length≤_;rw [List.length_append,p3];omega) (Nat.le_trans H.tq.2.2.2.2.2.1 (by decide));refine ⟨0,fF (fF w1 (w1.2.2.1++dz r.2.2.2.2.1 r.2.2.2.1 ((k+1:Nat):Int) said)) ((w1.2.2.1++dz r.2.2.2.2.1 r.2.2.2.1 ((k+1:Nat):Int) said)++[xH Cb r.2.2.2.1 nx]),?_,?_⟩
 ·simp only [Bool.not_true,cond_false];rw [e3];simp only [Option.bind_some];rw [e4];simp only [bZ,Option.bind_some];rw [e5];simp only [Option.bind_some];rw [e6];rfl
 ·refine jV.fF (w:=fF w1 _) (Vs.fF (fun x hx => ?_) ?_) (fun x hx => ?_) ?_
  ·rcases List.mem_append.1 hx with hx | hx
   ·exact Vs.lets x hx
   ·exact MZ hRP x hx
  ·rw [List.length_append,p3];omega
  ·rcases List.mem_append.1 hx with hx | hx
   ·rcases List.mem_append.1 hx with hx | hx
    ·exact Vs.lets x hx
    ·exact MZ hRP x hx
   ·rw [List.mem_singleton] at hx;subst hx;exact I7 hto H.tq.2.2.2.2.2.1
  ·rw [List.length_append,List.length_append,p3,List.length_singleton];omega
theorem UA {d:bY} {ms:dG} {b x:ea} (h:x∈jr d ms b):x=b:=by
 obtain ⟨_,_,rfl⟩:=List.mem_map.1 h;rfl
theorem UB (d:bY) (ms:dG) (b:ea) {j:Nat} (hj:j<ms.length) (mU:¬ms[j].1=d.1):(jr d (ms.take j) b).length<(jr d ms b).length:=by
 have h1:=C4 d ms b hj;rw [decide_eq_false mU] at h1;have h2:(jr d (ms.take (j+1)) b).length=(jr d (ms.take j) b).length+1:=by rw [h1];simp
 have h3:(jr d (ms.take (j+1)) b).length≤(jr d ms b).length:=by
  unfold jr;rw [List.length_map,List.length_map];exact ((List.take_sublist (j+1) ms).filter _).length_le
 omega
theorem Q7 {n:Nat} {w:mj} (h:jV n w) (hn:n≤100) (d:bY) (b:ea) {c:Int} {ms:dG} (hr:lU c ms) (hb:b.2.2.2.1.length≤60) :
  ∃w':mj,aJ kc (w.1,w.2.1,w.2.2.1,w.2.2.2.1,d.1,c,ms,jr d ms b,(0:Int),(0:Int),())=some (.inl (w'.1,w'.2.1,w'.2.2.1,w'.2.2.2.1,()))∧w'.1=w.1∧w'.2.1=w.2.1∧w'.2.2.2=w.2.2.2∧(∀x∈w'.2.2.1,JU x)∧w'.2.2.1.length≤w.2.2.1.length+5:=by
 have hf:=h.GK;have hl:=hr.2.1.2;have ht:=LB d ms b;obtain ⟨e,he,l,rfl,g1,g2⟩:=dt (round:=kc) (x:=(w.1,w.2.1,w.2.2.1,w.2.2.2.1,d.1,c,ms,jr d ms b,(0:Int),((0:Nat):Int),())) ms.length
  (fun j x=>∃l,x=((fF w l).1,(fF w l).2.1,(fF w l).2.2.1,(fF w l).2.2.2.1,d.1,c,ms,jr d ms b,(((jr d (ms.take j) b).length:Nat):Int),((j:Nat):Int),())∧(∀x∈l,JU x)∧l.length≤w.2.2.1.length+j)
  (fun e=>∃l,e=.inl ((fF w l).1,(fF w l).2.1,(fF w l).2.2.1,(fF w l).2.2.2.1,())∧(∀x∈l,JU x)∧l.length≤w.2.2.1.length+ms.length) (by
   rintro x ⟨l,rfl,g1,g2⟩
   exact ⟨_,by simp only [kc,bC,tE,aw,aA,aN,cond_false],l,rfl,g1,g2⟩) (by
   rintro j x hj ⟨l,rfl,g1,g2⟩
   have e1:=C4 d ms b hj;simp only [kc,bC,tE,aw,aA,aF hj,ax,cond_true,aG,List.getElem?_eq_getElem hj,Option.bind_some,aM (show j<4611686018427387904 by omega)]
   by_cases g:ms[j].1=d.1
   ·rw [ak g];rw [decide_eq_true g] at e1;have e2:(jr d (ms.take (j+1)) b).length=(jr d (ms.take j) b).length:=by rw [e1];simp
    refine .inr ⟨_,rfl,l,?_,g1,by omega⟩;rw [e2]
   ·rw [aq g];have hm:=UB d ms b hj g;have hx:(jr d ms b)[(jr d (ms.take j) b).length]=b:=UA (List.getElem_mem hm);have hs:=EA (fF w l) (by show l.length≤_;omega) (Q5 ms[j].1 c b);have hs:eV w.1 w.2.1 l w.2.2.2.1 3 ms[j].1 c 0 0 0 ByteArray.empty 0 0 0 0 0 [] b.1 b.2.1 b.2.2.1 b.2.2.2.1=_:=hs;have e2:(jr d (ms.take (j+1)) b).length=(jr d (ms.take j) b).length+1:=by rw [e1,decide_eq_false g];simp
    simp only [Bool.not_false,cond_true,fZ hm,List.getElem?_eq_getElem hm,Option.bind_some,hx,fF] at hs ⊢;rw [hs];refine .inr ⟨_,rfl,l++[Q5 ms[j].1 c b],?_,fun x hx => ?_,by rw [List.length_append,List.length_singleton];omega⟩
    ·rw [e2,aM (show (jr d (ms.take j) b).length<4611686018427387904 by omega)]
    ·rcases List.mem_append.1 hx with hx | hx
     ·exact g1 x hx
     ·rw [List.mem_singleton] at hx;subst hx;exact YE (hr.2.2 j hj hj).1 hb) ⟨w.2.2.1,rfl,h.lets,by omega⟩
 exact ⟨fF w l,he,rfl,rfl,rfl,g1,by show l.length≤_;omega⟩
theorem Q8 {n:Nat} {w:mj} (h:jV n w) (hn:n≤98) {k:Nat} (hk:k<w.2.1.length):∃a w',uG w.1 w.2.1 w.2.2.1 w.2.2.2.1 ((k+1:Nat):Int)=some (a,w'.1,w'.2.1,w'.2.2.1,w'.2.2.2.1,())∧jV (n+1) w':=by
 have hf:=h.GK;have h5:=h.Am;have hrl:=h.rings.2;obtain ⟨hd,wC⟩:=h.Gs k hk;generalize hdd:w.2.1[k]=d at hd wC;unfold uG;delta bA aA;simp only [wA (show k<1000 by omega),ax,cond_true,aG,List.getElem?_eq_getElem hk,Option.bind_some,hdd];obtain ⟨e,he,hq⟩:=dt (round:=ke) (x:=(w.1,w.2.1,w.2.2.1,w.2.2.2.1,((k+1:Nat):Int),d.1,d.2.1,d.2.2.1,d.2.2.2.1,d.2.2.2.2.1,d.2.2.2.2.2.1,d.2.2.2.2.2.2.1,d.2.2.2.2.2.2.2.1,d.2.2.2.2.2.2.2.2.1,d.2.2.2.2.2.2.2.2.2.1,d.2.2.2.2.2.2.2.2.2.2.1,d.2.2.2.2.2.2.2.2.2.2.2.1,d.2.2.2.2.2.2.2.2.2.2.2.2.1,d.2.2.2.2.2.2.2.2.2.2.2.2.2.1,d.2.2.2.2.2.2.2.2.2.2.2.2.2.2.1,d.2.2.2.2.2.2.2.2.2.2.2.2.2.2.2.1,d.2.2.2.2.2.2.2.2.2.2.2.2.2.2.2.2.1,d.2.2.2.2.2.2.2.2.2.2.2.2.2.2.2.2.2.1,d.2.2.2.2.2.2.2.2.2.2.2.2.2.2.2.2.2.2.1,d.2.2.2.2.2.2.2.2.2.2.2.2.2.2.2.2.2.2.2.1,d.2.2.2.2.2.2.2.2.2.2.2.2.2.2.2.2.2.2.2.2.1,d.2.2.2.2.2.2.2.2.2.2.2.2.2.2.2.2.2.2.2.2.2.1,d.2.2.2.2.2.2.2.2.2.2.2.2.2.2.2.2.2.2.2.2.2.2.1,d.2.2.2.2.2.2.2.2.2.2.2.2.2.2.2.2.2.2.2.2.2.2.2.1,((0:Nat):Int),())) w.1.length
  (fun i x=>x=(w.1,w.2.1,w.2.2.1,w.2.2.2.1,((k+1:Nat):Int),d.1,d.2.1,d.2.2.1,d.2.2.2.1,d.2.2.2.2.1,d.2.2.2.2.2.1,d.2.2.2.2.2.2.1,d.2.2.2.2.2.2.2.1,d.2.2.2.2.2.2.2.2.1,d.2.2.2.2.2.2.2.2.2.1,d.2.2.2.2.2.2.2.2.2.2.1,d.2.2.2.2.2.2.2.2.2.2.2.1,d.2.2.2.2.2.2.2.2.2.2.2.2.1,d.2.2.2.2.2.2.2.2.2.2.2.2.2.1,d.2.2.2.2.2.2.2.2.2.2.2.2.2.2.1,d.2.2.2.2.2.2.2.2.2.2.2.2.2.2.2.1,d.2.2.2.2.2.2.2.2.2.2.2.2.2.2.2.2.1,d.2.2.2.2.2.2.2.2.2.2.2.2.2.2.2.2.2.1,d.2.2.2.2.2.2.2.2.2.2.2.2.2.2.2.2.2.2.1,d.2.2.2.2.2.2.2.2.2.2.2.2.2.2.2.2.2.2.2.1,d.2.2.2.2.2.2.2.2.2.2.2.2.2.2.2.2.2.2.2.2.1,d.2.2.2.2.2.2.2.2.2.2.2.2.2.2.2.2.2.2.2.2.2.1,d.2.2.2.2.2.2.2.2.2.2.2.2.2.2.2.2.2.2.2.2.2.2.1,d.2.2.2.2.2.2.2.2.2.2.2.2.2.2.2.2.2.2.2.2.2.2.2.1,((i:Nat):Int),()))
  (fun e=>e=.inl (w.1,w.2.1,w.2.2.1,w.2.2.2.1,())∨∃a w',e=.inr (w'.1,w'.2.1,w'.2.2.1,w'.2.2.2.1,a,())∧jV (n+1) w') (by
   rintro x rfl
   exact ⟨_,by simp only [ke,az,aT,tF,az,aA,aN,cond_false],.inl rfl⟩) (by
   rintro i x hi rfl
   have hr:=h.rings.1 _ (List.getElem_mem hi);have YZ:(w.1[i]).2.1.length≤1048576:=by have:=hr.2.1.2;omega
   simp only [ke,az,aT,tF,az,aA,aF hi,ax,cond_true,aG,List.getElem?_eq_getElem hi,Option.bind_some,aM (show i<4611686018427387904 by omega),zH (w.1[i]).2.1 ((k+1:Nat):Int) YZ]
   by_cases g1:(w.1[i]).1≤d.2.2.2.2.2.2.2.2.2.2.2.2.2.2.2.2.2.2.1
   ·rw [ak g1];exact .inr ⟨_,rfl,rfl⟩
   rw [aq g1]
   by_cases g2:(((k+1:Nat):Int),())∈(w.1[i]).2.1
   ·have e1:=YA hd (by omega) (w.1[i]).1 (w.1[i]).2.1 YZ;simp only [ak g2,Bool.not_true,cond_false,e1,Option.bind_some]
    cases hb:Gr d (w.1[i]).1 (w.1[i]).2.1
    ·have e2:(dy d (w.1[i]).1 (w.1[i]).2.1).2.2=false:=by unfold dy;rw [hb];rfl
     rw [e2];exact .inl ⟨_,rfl,.inr ⟨1,w,rfl,h.up (Nat.le_succ n)⟩⟩
    ·have e2:dy d (w.1[i]).1 (w.1[i]).2.1=(tV d (w.1[i]).1 (w.1[i]).2.1,jr d (w.1[i]).2.1 (jX d (w.1[i]).1),true):=by unfold dy;rw [hb];rfl
     rw [e2];have uf:=hb;unfold Gr at uf;simp only [Bool.and_eq_true,Bool.not_eq_true',decide_eq_true_eq] at uf;obtain ⟨_,b2,_,b4,_⟩:=uf;obtain ⟨m1,m2⟩:=MV hd hr b4 b2 (by omega);obtain ⟨_,hP,_⟩:=I4 hd hr b4 b2 (by omega);have hdw:jV (n+1) (Al w k (tV d (w.1[i]).1 (w.1[i]).2.1)):=(h.up (Nat.le_succ n)).Al hk m1 (by rw [m2,hdd]);have e3:=pR w (by omega) hk (tV d (w.1[i]).1 (w.1[i]).2.1) (m2.trans wC);obtain ⟨w',l1,p1,p2,p3,p4,p5⟩:=Q7 hdw (by omega) d (jX d (w.1[i]).1) hr (yk hP).1;rw [wC] at l1;simp only [Bool.not_true,cond_false];rw [e3];simp only [Option.bind_some];rw [l1];simp only [bZ];refine .inl ⟨_,rfl,.inr ⟨0,w',rfl,?_⟩⟩;have p5:w'.2.2.1.length≤w.2.2.1.length+5:=p5;exact { rings:=by rw [p1];exact hdw.rings,Am:=by rw [p2];exact hdw.Am,Gs:=by rw [p2];exact hdw.Gs,lets:=p4,GK:=by omega,num:=by rw [p3];exact hdw.num,nums:=by rw [p3];exact hdw.nums }
   ·simp only [aq g2,Bool.not_false,cond_true];exact .inr ⟨_,rfl,rfl⟩) rfl
 have he:aJ ke (w.1,w.2.1,w.2.2.1,w.2.2.2.1,((k+1:Nat):Int),d.1,d.2.1,d.2.2.1,d.2.2.2.1,d.2.2.2.2.1,d.2.2.2.2.2.1,d.2.2.2.2.2.2.1,d.2.2.2.2.2.2.2.1,d.2.2.2.2.2.2.2.2.1,d.2.2.2.2.2.2.2.2.2.1,d.2.2.2.2.2.2.2.2.2.2.1,d.2.2.2.2.2.2.2.2.2.2.2.1,d.2.2.2.2.2.2.2.2.2.2.2.2.1,d.2.2.2.2.2.2.2.2.2.2.2.2.2.1,d.2.2.2.2.2.2.2.2.2.2.2.2.2.2.1,d.2.2.2.2.2.2.2.2.2.2.2.2.2.2.2.1,d.2.2.2.2.2.2.2.2.2.2.2.2.2.2.2.2.1,d.2.2.2.2.2.2.2.2.2.2.2.2.2.2.2.2.2.1,d.2.2.2.2.2.2.2.2.2.2.2.2.2.2.2.2.2.2.1,d.2.2.2.2.2.2.2.2.2.2.2.2.2.2.2.2.2.2.2.1,d.2.2.2.2.2.2.2.2.2.2.2.2.2.2.2.2.2.2.2.2.1,d.2.2.2.2.2.2.2.2.2.2.2.2.2.2.2.2.2.2.2.2.2.1,d.2.2.2.2.2.2.2.2.2.2.2.2.2.2.2.2.2.2.2.2.2.2.1,d.2.2.2.2.2.2.2.2.2.2.2.2.2.2.2.2.2.2.2.2.2.2.2.1,(0:Int),())=some e:=he;rw [he];rcases hq with rfl | ⟨a,w',rfl,hw⟩
 ·exact ⟨1,w,rfl,h.up (Nat.le_succ n)⟩
 ·exact ⟨a,w',rfl,hw⟩
end Go.TM
