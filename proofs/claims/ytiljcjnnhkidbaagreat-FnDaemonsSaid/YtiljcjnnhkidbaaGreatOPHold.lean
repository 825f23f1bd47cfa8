/- What a member does that holds a token. -/
import Derived.Test.YtiljcjnnhkidbaaGreatOPHoldL
set_option linter.unusedSimpArgs false
set_option linter.unusedVariables false
namespace Go.TM
open Go
theorem qW.id {m:iA} (h:qW m):1≤m.1∧m.1≤5:=by
 obtain ⟨k,hk,e⟩:=List.mem_iff_getElem.1 h.mem;have:=(h.ring.2.2 k hk hk).1;rw [e] at this;exact this
theorem Qe {list:aW} {xs:eA} {ms:List Int} {c c2:Int} (hx:zo c xs xs.length) (hc:c≤c2) (hm:∀s∈ms,1≤s∧s≤c2):zo c2 (bF (mw list xs ms)) (bF (mw list xs ms)).length:=by
 have hp:(mw list xs ms).Pairwise (· < ·):=List.Pairwise.sublist (List.take_sublist _ _) (List.Pairwise.filter _ (F2 60));have Ga:∀s∈mw list xs ms,1≤s∧s≤c2:=by
  intro s hs;have h1:=List.mem_of_mem_take hs;have h2:=(List.mem_filter.1 h1).2;unfold jg at h2;rw [Bool.or_eq_true,Bool.and_eq_true,decide_eq_true_eq,decide_eq_true_eq] at h2;rcases h2 with ⟨_,h2⟩ | h2
  ·unfold cq at h2;obtain ⟨r,hr,rfl⟩:=List.mem_map.1 h2;obtain ⟨k,hk,rfl⟩:=List.mem_iff_getElem.1 hr;have:=hx k hk hk;exact ⟨this.1,by omega⟩
  ·exact hm s h2
 intro k hk _;have IT:k<(mw list xs ms).length:=by rwa [dP] at hk
 have e:∀j (hj:j<(bF (mw list xs ms)).length) (hj':j<(mw list xs ms).length),(bF (mw list xs ms))[j].1=(mw list xs ms)[j]:=by intro j hj hj';simp [bF]
 rw [e k hk IT];refine ⟨(Ga _ (List.getElem_mem IT)).1,(Ga _ (List.getElem_mem IT)).2,fun h0 => ?_⟩;rw [e (k-1) (by omega) (by omega)];exact List.pairwise_iff_getElem.1 hp (k-1) k (by omega) IT (by omega)
theorem xP.drop {l:eA} (h:xP l l.length) (k:Nat):xP (l.drop k) (l.drop k).length:=by
 intro j hj _;rw [List.getElem_drop];rw [List.length_drop] at hj;exact h (k+j) (by omega) (by omega)
theorem kx.drop {l:List (ByteArray×Unit)} (h:kx l l.length) (k:Nat):kx (l.drop k) (l.drop k).length:=by
 intro j hj _;rw [List.getElem_drop];rw [List.length_drop] at hj;exact h (k+j) (by omega) (by omega)
structure akE (m:iA) (t:mR) (n:iA) (said:aW) (k:Nat) (nx:mR):Prop where
 Gx:k≤3∧k≤m.2.2.2.2.2.1.length∧t.2.2.1+((k:Nat):Int)≤60
 said:said=wN t m.2.2.2.1++iy t.2.2.1 m.1 m.2.2.2.2.1 m.2.2.2.2.2.1 k
 id:n.1=m.1∧n.2.1=m.2.1∧n.2.2.1=m.2.2.1
 items:n.2.2.2.1=cQ m.2.2.2.1 (iy t.2.2.1 m.1 m.2.2.2.2.1 m.2.2.2.2.2.1 k)
 words:n.2.2.2.2.1=m.2.2.2.2.1.drop k∧n.2.2.2.2.2.1=m.2.2.2.2.2.1.drop k
 round:n.2.2.2.2.2.2.1=t.2.1∧n.2.2.2.2.2.2.2.1=t.2.2.2.1∧m.2.2.2.2.2.2.2.2.1≤n.2.2.2.2.2.2.2.2.1∧n.2.2.2.2.2.2.2.2.2.1=m.2.2.2.2.2.2.2.2.2.1
 last:(n.2.2.2.2.2.2.2.2.2.2.1,n.2.2.2.2.2.2.2.2.2.2.2.1,n.2.2.2.2.2.2.2.2.2.2.2.2.1,n.2.2.2.2.2.2.2.2.2.2.2.2.2.1,n.2.2.2.2.2.2.2.2.2.2.2.2.2.2.1,n.2.2.2.2.2.2.2.2.2.2.2.2.2.2.2.1,())=nx
 nq:qW n
 tq:L4 nx
 next:nx.1=t.1∧nx.2.1=t.2.1+1∧nx.2.2.1=t.2.2.1+((k:Nat):Int)
 xS:k=min 3 m.2.2.2.2.2.1.length∨t.2.2.1+((k:Nat):Int)=60
 marks:nx.2.2.2.1=F0 (t.2.2.1+((k:Nat):Int)) (if t.2.2.2.1=t.2.2.1∧t.2.2.2.2.1=0 then t.2.2.1+((k:Nat):Int) else t.2.2.2.1) t.2.2.2.2.1 m.1 ((dB n.2.2.2.1:Nat):Int)∧nx.2.2.2.2.1=F1 (t.2.2.1+((k:Nat):Int)) (if t.2.2.2.1=t.2.2.1∧t.2.2.2.2.1=0 then t.2.2.1+((k:Nat):Int) else t.2.2.2.1) t.2.2.2.2.1 m.1 ((dB n.2.2.2.1:Nat):Int)
 line:n.2.2.2.2.2.2.2.2.1=m.2.2.2.2.2.2.2.2.1∨(n.2.2.2.2.2.2.2.2.1≤m.2.2.2.2.2.2.2.1∧n.2.2.2.2.2.2.2.2.1≤t.2.2.2.1∧n.2.2.2.2.2.2.2.2.1≤((dB n.2.2.2.1:Nat):Int))
 N8:∀s∈cq nx.2.2.2.2.2.1,hasB n.2.2.2.1 s=false
 reach:∀x:Int,x≤m.2.2.2.2.2.2.2.1→x≤t.2.2.2.1→x≤((dB n.2.2.2.1:Nat):Int)→x≤n.2.2.2.2.2.2.2.2.1
theorem YS (m:iA) (t:mR) (hm:qW m) (ht:L4 t) (hc:t.1=m.2.1) (hr1:m.2.2.2.2.2.2.1<t.2.1) (hr2:t.2.1<1000000000) :
  ∃(n:iA) (said:aW) (k:Nat) (nx:mR),akE m t n said k nx∧lz m.1 m.2.1 m.2.2.1 m.2.2.2.1 m.2.2.2.2.1 m.2.2.2.2.2.1 m.2.2.2.2.2.2.1 m.2.2.2.2.2.2.2.1 m.2.2.2.2.2.2.2.2.1 m.2.2.2.2.2.2.2.2.2.1 m.2.2.2.2.2.2.2.2.2.2.1 m.2.2.2.2.2.2.2.2.2.2.2.1 m.2.2.2.2.2.2.2.2.2.2.2.2.1 m.2.2.2.2.2.2.2.2.2.2.2.2.2.1 m.2.2.2.2.2.2.2.2.2.2.2.2.2.2.1 m.2.2.2.2.2.2.2.2.2.2.2.2.2.2.2.1 t.1 t.2.1 t.2.2.1 t.2.2.2.1 t.2.2.2.2.1 t.2.2.2.2.2.1=some (n.1,n.2.1,n.2.2.1,n.2.2.2.1,n.2.2.2.2.1,n.2.2.2.2.2.1,n.2.2.2.2.2.2.1,n.2.2.2.2.2.2.2.1,n.2.2.2.2.2.2.2.2.1,n.2.2.2.2.2.2.2.2.2.1,n.2.2.2.2.2.2.2.2.2.2.1,n.2.2.2.2.2.2.2.2.2.2.2.1,n.2.2.2.2.2.2.2.2.2.2.2.2.1,n.2.2.2.2.2.2.2.2.2.2.2.2.2.1,n.2.2.2.2.2.2.2.2.2.2.2.2.2.2.1,n.2.2.2.2.2.2.2.2.2.2.2.2.2.2.2.1,said,((k:Nat):Int),nx.1,nx.2.1,nx.2.2.1,nx.2.2.2.1,nx.2.2.2.2.1,nx.2.2.2.2.2.1,true,())∧lk m.1 m.2.1 m.2.2.1 m.2.2.2.1 m.2.2.2.2.1 m.2.2.2.2.2.1 m.2.2.2.2.2.2.1 m.2.2.2.2.2.2.2.1 m.2.2.2.2.2.2.2.2.1 m.2.2.2.2.2.2.2.2.2.1 m.2.2.2.2.2.2.2.2.2.2.1 m.2.2.2.2.2.2.2.2.2.2.2.1 m.2.2.2.2.2.2.2.2.2.2.2.2.1 m.2.2.2.2.2.2.2.2.2.2.2.2.2.1 m.2.2.2.2.2.2.2.2.2.2.2.2.2.2.1 m.2.2.2.2.2.2.2.2.2.2.2.2.2.2.2.1 t.1 t.2.1 t.2.2.1 t.2.2.2.1 t.2.2.2.2.1 t.2.2.2.2.2.1=some (n.1,n.2.1,n.2.2.1,n.2.2.2.1,n.2.2.2.2.1,n.2.2.2.2.2.1,n.2.2.2.2.2.2.1,n.2.2.2.2.2.2.2.1,n.2.2.2.2.2.2.2.2.1,n.2.2.2.2.2.2.2.2.2.1,n.2.2.2.2.2.2.2.2.2.2.1,n.2.2.2.2.2.2.2.2.2.2.2.1,n.2.2.2.2.2.2.2.2.2.2.2.2.1,n.2.2.2.2.2.2.2.2.2.2.2.2.2.1,n.2.2.2.2.2.2.2.2.2.2.2.2.2.2.1,n.2.2.2.2.2.2.2.2.2.2.2.2.2.2.2.1,said,nx.1,nx.2.1,nx.2.2.1,nx.2.2.2.1,nx.2.2.2.2.1,nx.2.2.2.2.2.1,true,()):=by
 have wi:=hm.id;have hW:=hm.small;have hw:=hW;unfold ma at hw;have hwl:t.2.2.2.2.2.1.length≤20:=ht.2.2.2.2.2.1;obtain ⟨k,t3,hN,q1,q2,q3,q4,q5,q6⟩:=P9 t.1 t.2.1 t.2.2.1 t.2.2.2.1 t.2.2.2.2.1 t.2.2.2.2.2.1 m.1 m.2.2.2.2.1 m.2.2.2.2.2.1 (by omega) (by omega) wi ht;obtain ⟨o0,o1,o2,o3,o4,o5,o6,s1,s2,_⟩:=L7 t.1 t.2.1 t.2.2.1 t.2.2.2.1 t.2.2.2.2.1 t.2.2.2.2.2.1 m.1 m.2.2.2.2.1 m.2.2.2.2.2.1 (by omega);rw [hN] at s2;injection s2 with s2;simp only [Prod.mk.injEq] at s2;obtain ⟨rfl,rfl,rfl,rfl,rfl,rfl,rfl,_⟩:=s2;have hF:∀f∈iy t.2.2.1 m.1 m.2.2.2.2.1 m.2.2.2.2.2.1 k,pH f:=F4 ⟨ht.2.2.1.1,q3⟩ wi q2 hm.short;have hFl:=zC t.2.2.1 m.1 m.2.2.2.2.1 m.2.2.2.2.2.1 k;generalize hFF:iy t.2.2.1 m.1 m.2.2.2.2.1 m.2.2.2.2.2.1 k=F at *;subst hFl;have hi:=uF F hm.items hF;have his:=dv _ hi;have av0:=dv _ hm.items;obtain ⟨a1,a2,_⟩:=zu (cQ m.2.2.2.1 F) (by omega);have atg:dB m.2.2.2.1≤dB (cQ m.2.2.2.1 F):=N7 (by omega) (by omega) fun r hr=>⟨r,F3 F hr,rfl⟩
 obtain ⟨z0,z1,z2,z3,z4,z5,z6⟩:=ht;have hw2:zo (t.2.2.1+((List.length F:Nat):Int)) t.2.2.2.2.2.1 t.2.2.2.2.2.1.length:=fun j hj Ve=>by
  have:=z6 j hj Ve;exact ⟨this.1,by omega,this.2.2⟩
 have ht3:0≤t3∧t3≤t.2.2.1+((List.length F:Nat):Int):=by
  have z3a:=z3.1;have z3b:=z3.2;have z2a:=z2.1;rcases q4 with e | e<;>rw [e]<;>omega
 have htq:L4 (t.1,t.2.1,t.2.2.1+((List.length F:Nat):Int),t3,t.2.2.2.2.1,t.2.2.2.2.2.1,()):=⟨z0,z1,⟨by show 0≤t.2.2.1+_;omega,q3⟩,ht3,z4,z5,hw2⟩;obtain ⟨u1,_,u3⟩:=Fc (t.1,t.2.1,t.2.2.1+((List.length F:Nat):Int),t3,t.2.2.2.2.1,t.2.2.2.2.2.1,()) (by show t.2.2.2.2.2.1.length≤_;omega);rw [u3.2 htq] at u1;obtain ⟨t3',YT,m1,m2,_,m4,m5⟩:=WW t.1 t.2.1 (t.2.2.1+((List.length F:Nat):Int)) t3 t.2.2.2.2.1 t.2.2.2.2.2.1 m.1 ((dB (cQ m.2.2.2.1 F):Nat):Int) (by omega) u1;have m4:=m4 rfl wi.1 wi.2 (by omega) htq.2.2.2.1.1 htq.2.2.2.1.2;have m5:=m5 rfl wi.1 wi.2 (by omega);obtain ⟨ms,l1,l2,l3,l4⟩:=N4 (cQ m.2.2.2.1 F) (t.2.2.1+((List.length F:Nat):Int)) (by omega);have ls:=Qb t.1 t.2.1 (t.2.2.1+((List.length F:Nat):Int)) t3' YT t.2.2.2.2.2.1 (cQ m.2.2.2.1 F) ms (by omega) (by omega) l1 l3;have li:=Qc t.1 t.2.1 (t.2.2.1+((List.length F:Nat):Int)) t3' YT t.2.2.2.2.2.1 (cQ m.2.2.2.1 F) ms (by omega) (by omega) l2 l3 (fun s hs=>⟨(l4 s hs).1,(l4 s hs).2.1.1,(l4 s hs).2.2⟩);have hlw:zo (t.2.2.1+((List.length F:Nat):Int)) (bF (mw (cQ m.2.2.2.1 F) t.2.2.2.2.2.1 ms)) (bF (mw (cQ m.2.2.2.1 F) t.2.2.2.2.2.1 ms)).length:=Qe z6 (by omega) fun s hs=>⟨(l4 s hs).1,(l4 s hs).2.1.2⟩
 have YP:(bF (mw (cQ m.2.2.2.1 F) t.2.2.2.2.2.1 ms)).length≤20:=by
  rw [dP];unfold mw;rw [List.length_take];omega
 have hlk:∀s∈cq (bF (mw (cQ m.2.2.2.1 F) t.2.2.2.2.2.1 ms)),hasB (cQ m.2.2.2.1 F) s=false:=by
  rw [sr];intro s hs;have h2:=(List.mem_filter.1 (List.mem_of_mem_take hs)).2;unfold jg at h2;rw [Bool.or_eq_true,Bool.and_eq_true,decide_eq_true_eq,decide_eq_true_eq] at h2;rcases h2 with ⟨h2,_⟩ | h2
  ·simpa using h2
  ·exact (l4 s h2).2.2
 generalize bF (mw (cQ m.2.2.2.1 F) t.2.2.2.2.2.1 ms)=W at *;have YU:IntKind.i64.wrap (t.2.1+(1:Int))=t.2.1+1:=dH (by omega) (by omega);obtain ⟨c1,c2⟩:=l9 t.1 (t.2.1+1) (t.2.2.1+((List.length F:Nat):Int)) t3' YT W (by omega);have PN:ma m≤1048576:=by omega
 obtain ⟨kb1,kb2,kb3⟩:=tH m PN;rw [kb3.2 hm] at kb1 kb2;obtain ⟨kt1,kt2,kt3⟩:=Fc t (by omega);rw [kt3.2 ⟨z0,z1,z2,z3,z4,z5,z6⟩] at kt1 kt2;obtain ⟨p1,p2⟩:=nG m.1 m.2.1 m.2.2.1 m.2.2.2.1 m.2.2.2.2.1 m.2.2.2.2.2.1 m.2.2.2.2.2.2.1 m.2.2.2.2.2.2.2.1 m.2.2.2.2.2.2.2.2.1 m.2.2.2.2.2.2.2.2.2.1 m.2.2.2.2.2.2.2.2.2.2.1 m.2.2.2.2.2.2.2.2.2.2.2.1 m.2.2.2.2.2.2.2.2.2.2.2.2.1 m.2.2.2.2.2.2.2.2.2.2.2.2.2.1 m.2.2.2.2.2.2.2.2.2.2.2.2.2.2.1 m.2.2.2.2.2.2.2.2.2.2.2.2.2.2.2.1 PN;obtain ⟨g1,g2⟩:=WZ t m.2.2.2.1 (by omega) (by omega);have hgl:=W2 t m.2.2.2.1;have htx:=hm.texts;generalize hLN:(if (if ((dB (cQ m.2.2.2.1 F):Nat):Int)<(if t.2.2.2.1<m.2.2.2.2.2.2.2.1 then t.2.2.2.1 else m.2.2.2.2.2.2.2.1) then ((dB (cQ m.2.2.2.1 F):Nat):Int) else (if t.2.2.2.1<m.2.2.2.2.2.2.2.1 then t.2.2.2.1 else m.2.2.2.2.2.2.2.1))>m.2.2.2.2.2.2.2.2.1 then (if ((dB (cQ m.2.2.2.1 F):Nat):Int)<(if t.2.2.2.1<m.2.2.2.2.2.2.2.1 then t.2.2.2.1 else m.2.2.2.2.2.2.2.1) then ((dB (cQ m.2.2.2.1 F):Nat):Int) else (if t.2.2.2.1<m.2.2.2.2.2.2.2.1 then t.2.2.2.1 else m.2.2.2.2.2.2.2.1)) else m.2.2.2.2.2.2.2.2.1)=line;have hle:m.2.2.2.2.2.2.2.2.1≤line:=by
  rw [←hLN]
  split<;>omega
 have hnx:L4 (t.1,t.2.1+1,t.2.2.1+((List.length F:Nat):Int),t3',YT,W,()):=⟨z0,⟨by show 1≤t.2.1+1;omega,by show t.2.1+1≤1000000000;omega⟩,⟨by show 0≤t.2.2.1+_;have:=z2.1;omega,q3⟩,⟨m4.1,m4.2.1⟩,by
  have z4a:=z4.1;have z4b:=z4.2;show 0≤YT∧YT≤5;rcases m4.2.2.2.2 with e | e | ⟨e,_⟩<;>rw [e]<;>omega,YP,hlw⟩
 refine ⟨(m.1,m.2.1,m.2.2.1,cQ m.2.2.2.1 F,m.2.2.2.2.1.drop F.length,m.2.2.2.2.2.1.drop F.length,t.2.1,t.2.2.2.1,line,m.2.2.2.2.2.2.2.2.2.1,t.1,t.2.1+1,t.2.2.1+((List.length F:Nat):Int),t3',YT,W,()),wN t m.2.2.2.1++F,F.length,(t.1,t.2.1+1,t.2.2.1+((List.length F:Nat):Int),t3',YT,W,()),?_,?_,?_⟩
 ·have hn:qW (m.1,m.2.1,m.2.2.1,cQ m.2.2.2.1 F,m.2.2.2.2.1.drop F.length,m.2.2.2.2.2.1.drop F.length,t.2.1,t.2.2.2.1,line,m.2.2.2.2.2.2.2.2.2.1,t.1,t.2.1+1,t.2.2.1+((List.length F:Nat):Int),t3',YT,W,()):={
   ring:=hm.ring
   mem:=hm.mem
   items:=hi
   texts:=⟨by show (m.2.2.2.2.2.1.drop F.length).length≤20;rw [List.length_drop];omega,by show (m.2.2.2.2.1.drop F.length).length=(m.2.2.2.2.2.1.drop F.length).length;rw [List.length_drop,List.length_drop];omega⟩
   Xx:=hm.Xx.drop _
   short:=hm.short.drop _
   round:=⟨by show 0≤t.2.1;omega,by show t.2.1≤1000000000;omega⟩
   seen:=⟨z3.1,by show t.2.2.2.1≤60;have:=z3.2;omega⟩
   line:=by
    have hl:=hm.line;have hs:=hm.seen;have ha:=z3.1;show 0≤line∧line≤((dB (cQ m.2.2.2.1 F):Nat):Int);rw [←hLN]
    split<;>split<;>(try split)<;>omega
   heard:=by
    have hl:=hm.heard;show 0≤m.2.2.2.2.2.2.2.2.2.1∧m.2.2.2.2.2.2.2.2.2.1≤((dB (cQ m.2.2.2.1 F):Nat):Int);omega
   last:=.inr hnx }
  have akF:F.length=min 3 m.2.2.2.2.2.1.length∨t.2.2.1+((F.length:Nat):Int)=60:=by
   rcases q5 with h | h | ⟨h,h'⟩
   ·exact .inl h
   ·exact .inr (by omega)
   ·have:=hm.short _ h h;omega
  have akG:line=m.2.2.2.2.2.2.2.2.1∨(line≤m.2.2.2.2.2.2.2.1∧line≤t.2.2.2.1∧line≤((dB (cQ m.2.2.2.1 F):Nat):Int)):=by
   rw [←hLN]
   split<;>split<;>(try split)<;>omega
  have afE:∀x:Int,x≤m.2.2.2.2.2.2.2.1→x≤t.2.2.2.1→x≤((dB (cQ m.2.2.2.1 F):Nat):Int)→x≤line:=by
   rw [←hLN];intro x x1 x2 x3
   split<;>split<;>(try split)<;>omega
  exact { Gx:=⟨q1,q2,q3⟩,said:=by rw [hFF],id:=⟨rfl,rfl,rfl⟩,items:=by rw [hFF],words:=⟨rfl,rfl⟩,round:=⟨rfl,rfl,hle,rfl⟩,last:=rfl,nq:=hn,tq:=hnx,next:=⟨rfl,rfl,rfl⟩,xS:=akF,marks:=⟨m5.1.trans (by rw [q6]),m5.2.trans (by rw [q6])⟩,line:=akG,N8:=hlk,reach:=afE }
 ·unfold lz;delta aw aP aA bA ev
  try simp only [de]
  simp only [ak hc,aq (show ¬t.2.1≤m.2.2.2.2.2.2.1 by omega),aq (show ¬(1000000000:Int)≤t.2.1 by omega),kb2,kt2,p2,g2,hN,Option.bind_some,Bool.not_true,cond_false,cond_true,ax,aF,ak (show ((List.length F:Nat):Int)≤((List.length m.2.2.2.2.1:Nat):Int) by omega),ak (show ((List.length F:Nat):Int)≤((List.length m.2.2.2.2.2.1:Nat):Int) by omega)];rw [IB (hx:=hm.items) (hf:=hF) (hn:=by omega) ..];simp only [kk,a2,m2,li,YU,c2,Option.bind_some,hLN];rw [aT (show ((wN t m.2.2.2.1).length+F.length)*40≤lim by unfold lim;omega)];rfl
 ·subst hLN;unfold lk;delta aw aP db aA bA ev
  try simp only [de]
  simp only [ak hc,aq (show ¬t.2.1≤m.2.2.2.2.2.2.1 by omega),aq (show ¬(1000000000:Int)≤t.2.1 by omega),kb1,kt1,p1,g1,s1,Option.bind_some,Bool.not_true,cond_false,cond_true,ax,aF,ak (show ((List.length F:Nat):Int)≤((List.length m.2.2.2.2.1:Nat):Int) by omega),ak (show ((List.length F:Nat):Int)≤((List.length m.2.2.2.2.2.1:Nat):Int) by omega),
   aT (show (0+(wN t m.2.2.2.1).length)*40≤lim by unfold lim;omega),aT (show (0+(List.drop F.length m.2.2.2.2.1).length)*8≤lim by rw [List.length_drop];unfold lim;omega),aT (show (0+(List.drop F.length m.2.2.2.2.2.1).length)*16≤lim by rw [List.length_drop];unfold lim;omega),List.nil_append]
  rw [IC (hx:=hm.items) (hf:=hF) (hn:=by omega) ..];simp only [kk,a1,m1,Option.bind_some,aT (show ((wN t m.2.2.2.1).length+F.length)*40≤lim by unfold lim;omega),cond_true]
  by_cases h1:t.2.2.2.1<m.2.2.2.2.2.2.2.1
  ·rw [ak h1,if_pos h1];simp only [cond_true]
   by_cases h2:((dB (cQ m.2.2.2.1 F):Nat):Int)<t.2.2.2.1
   ·rw [ak h2,if_pos h2];simp only [cond_true]
    by_cases h3:m.2.2.2.2.2.2.2.2.1<((dB (cQ m.2.2.2.1 F):Nat):Int)
    ·rw [ak h3,if_pos (show ((dB (cQ m.2.2.2.1 F):Nat):Int)>m.2.2.2.2.2.2.2.2.1 from h3)];simp only [cond_true,ls,YU,c1,Option.bind_some]
    ·rw [aq h3,if_neg (show ¬((dB (cQ m.2.2.2.1 F):Nat):Int)>m.2.2.2.2.2.2.2.2.1 from h3)];simp only [cond_false,ls,YU,c1,Option.bind_some]
   ·rw [aq h2,if_neg h2];simp only [cond_false]
    by_cases h3:m.2.2.2.2.2.2.2.2.1<t.2.2.2.1
    ·rw [ak h3,if_pos (show t.2.2.2.1>m.2.2.2.2.2.2.2.2.1 from h3)];simp only [cond_true,ls,YU,c1,Option.bind_some]
    ·rw [aq h3,if_neg (show ¬t.2.2.2.1>m.2.2.2.2.2.2.2.2.1 from h3)];simp only [cond_false,ls,YU,c1,Option.bind_some]
  ·rw [aq h1,if_neg h1];simp only [cond_false]
   by_cases h2:((dB (cQ m.2.2.2.1 F):Nat):Int)<m.2.2.2.2.2.2.2.1
   ·rw [ak h2,if_pos h2];simp only [cond_true]
    by_cases h3:m.2.2.2.2.2.2.2.2.1<((dB (cQ m.2.2.2.1 F):Nat):Int)
    ·rw [ak h3,if_pos (show ((dB (cQ m.2.2.2.1 F):Nat):Int)>m.2.2.2.2.2.2.2.2.1 from h3)];simp only [cond_true,ls,YU,c1,Option.bind_some]
    ·rw [aq h3,if_neg (show ¬((dB (cQ m.2.2.2.1 F):Nat):Int)>m.2.2.2.2.2.2.2.2.1 from h3)];simp only [cond_false,ls,YU,c1,Option.bind_some]
   ·rw [aq h2,if_neg h2];simp only [cond_false]
    by_cases h3:m.2.2.2.2.2.2.2.2.1<m.2.2.2.2.2.2.2.1
    ·rw [ak h3,if_pos (show m.2.2.2.2.2.2.2.1>m.2.2.2.2.2.2.2.2.1 from h3)];simp only [cond_true,ls,YU,c1,Option.bind_some]
    ·rw [aq h3,if_neg (show ¬m.2.2.2.2.2.2.2.1>m.2.2.2.2.2.2.2.2.1 from h3)];simp only [cond_false,ls,YU,c1,Option.bind_some]
noncomputable def N9 (m:iA) (t:mR):Bool:=uC m&&(Jp t&&(decide (t.1=m.2.1)&&(decide (m.2.2.2.2.2.2.1<t.2.1)&&decide (t.2.1<1000000000))))
theorem YV (m:iA) (t:mR) (h:ma m≤1048576) (hw:t.2.2.2.2.2.1.length≤1048576) (hn:N9 m t=false):lz m.1 m.2.1 m.2.2.1 m.2.2.2.1 m.2.2.2.2.1 m.2.2.2.2.2.1 m.2.2.2.2.2.2.1 m.2.2.2.2.2.2.2.1 m.2.2.2.2.2.2.2.2.1 m.2.2.2.2.2.2.2.2.2.1 m.2.2.2.2.2.2.2.2.2.2.1 m.2.2.2.2.2.2.2.2.2.2.2.1 m.2.2.2.2.2.2.2.2.2.2.2.2.1 m.2.2.2.2.2.2.2.2.2.2.2.2.2.1 m.2.2.2.2.2.2.2.2.2.2.2.2.2.2.1 m.2.2.2.2.2.2.2.2.2.2.2.2.2.2.2.1 t.1 t.2.1 t.2.2.1 t.2.2.2.1 t.2.2.2.2.1 t.2.2.2.2.2.1=some ((0:Int),(0:Int),[],[],[],[],(0:Int),(0:Int),(0:Int),(0:Int),(0:Int),(0:Int),(0:Int),(0:Int),(0:Int),[],[],(0:Int),(0:Int),(0:Int),(0:Int),(0:Int),(0:Int),[],false,())∧
  lk m.1 m.2.1 m.2.2.1 m.2.2.2.1 m.2.2.2.2.1 m.2.2.2.2.2.1 m.2.2.2.2.2.2.1 m.2.2.2.2.2.2.2.1 m.2.2.2.2.2.2.2.2.1 m.2.2.2.2.2.2.2.2.2.1 m.2.2.2.2.2.2.2.2.2.2.1 m.2.2.2.2.2.2.2.2.2.2.2.1 m.2.2.2.2.2.2.2.2.2.2.2.2.1 m.2.2.2.2.2.2.2.2.2.2.2.2.2.1 m.2.2.2.2.2.2.2.2.2.2.2.2.2.2.1 m.2.2.2.2.2.2.2.2.2.2.2.2.2.2.2.1 t.1 t.2.1 t.2.2.1 t.2.2.2.1 t.2.2.2.2.1 t.2.2.2.2.2.1=some (m.1,m.2.1,m.2.2.1,m.2.2.2.1,m.2.2.2.2.1,m.2.2.2.2.2.1,m.2.2.2.2.2.2.1,m.2.2.2.2.2.2.2.1,m.2.2.2.2.2.2.2.2.1,m.2.2.2.2.2.2.2.2.2.1,m.2.2.2.2.2.2.2.2.2.2.1,m.2.2.2.2.2.2.2.2.2.2.2.1,m.2.2.2.2.2.2.2.2.2.2.2.2.1,m.2.2.2.2.2.2.2.2.2.2.2.2.2.1,m.2.2.2.2.2.2.2.2.2.2.2.2.2.2.1,m.2.2.2.2.2.2.2.2.2.2.2.2.2.2.2.1,[],(0:Int),(0:Int),(0:Int),(0:Int),(0:Int),[],false,()):=by
 obtain ⟨k1,k2,_⟩:=tH m h;obtain ⟨t1,t2,_⟩:=Fc t hw;obtain ⟨p1,_⟩:=nG m.1 m.2.1 m.2.2.1 m.2.2.2.1 m.2.2.2.2.1 m.2.2.2.2.2.1 m.2.2.2.2.2.2.1 m.2.2.2.2.2.2.2.1 m.2.2.2.2.2.2.2.2.1 m.2.2.2.2.2.2.2.2.2.1 m.2.2.2.2.2.2.2.2.2.2.1 m.2.2.2.2.2.2.2.2.2.2.2.1 m.2.2.2.2.2.2.2.2.2.2.2.2.1 m.2.2.2.2.2.2.2.2.2.2.2.2.2.1 m.2.2.2.2.2.2.2.2.2.2.2.2.2.2.1 m.2.2.2.2.2.2.2.2.2.2.2.2.2.2.2.1 h;unfold N9 at hn
 constructor
 ·unfold lz;delta aw aP aA bA ev
  try simp only [de]
  by_cases a1:t.1=m.2.1
  case neg=>rw [aq a1];rfl
  by_cases a2:m.2.2.2.2.2.2.1<t.2.1
  case neg=>rw [ak a1,ak (show t.2.1≤m.2.2.2.2.2.2.1 by omega)];rfl
  by_cases a3:t.2.1<1000000000
  case neg=>rw [ak a1,aq (show ¬t.2.1≤m.2.2.2.2.2.2.1 by omega),ak (show (1000000000:Int)≤t.2.1 by omega)];rfl
  rw [ak a1,ak a2,ak a3] at hn;rw [ak a1,aq (show ¬t.2.1≤m.2.2.2.2.2.2.1 by omega),aq (show ¬(1000000000:Int)≤t.2.1 by omega)];simp only [Bool.not_true,cond_false,k2,Option.bind_some]
  cases hb:uC m
  ·rfl
  ·rw [hb] at hn
   cases hc:Jp t
   ·simp only [t2,hc,Bool.not_true,cond_false,Option.bind_some];rfl
   ·rw [hc] at hn;cases hn
 ·unfold lk;delta aw aP db aA bA ev
  try simp only [de]
  simp only [p1,k1,Option.bind_some]
  cases hb:uC m
  ·rfl
  simp only [Bool.not_true,cond_false,t1,Option.bind_some]
  cases hc:Jp t
  ·rfl
  by_cases a1:t.1=m.2.1
  case neg=>rw [aq a1];rfl
  by_cases a2:m.2.2.2.2.2.2.1<t.2.1
  case neg=>rw [ak a1,ak (show t.2.1≤m.2.2.2.2.2.2.1 by omega)];rfl
  by_cases a3:t.2.1<1000000000
  case neg=>rw [ak a1,aq (show ¬t.2.1≤m.2.2.2.2.2.2.1 by omega),ak (show (1000000000:Int)≤t.2.1 by omega)];rfl
  rw [ak a1,ak a2,ak a3,hb,hc] at hn
  cases hn
end Go.TM
set_option linter.unusedSimpArgs false
set_option linter.unusedVariables false
namespace Go.TM
open Go
theorem YW {m:iA} (hm:qW m) {level:Int} {text:ByteArray} (hl:1≤level∧level≤2) (ht:ByteArray.size text≤60) (hn:m.2.2.2.2.2.1.length<20):qW (WN m level text):={
 ring:=hm.ring
 mem:=hm.mem
 items:=hm.items
 texts:=⟨by show (m.2.2.2.2.2.1++[(text,())]).length≤20;simp;omega,by show (m.2.2.2.2.1++[(level,())]).length=(m.2.2.2.2.2.1++[(text,())]).length;have:=hm.texts.2;simp;omega⟩
 Xx:=fun j hj _=>by
  have hj:j<(m.2.2.2.2.1++[(level,())]).length:=hj;show (decide (1≤(m.2.2.2.2.1++[(level,())])[j].1)&&decide ((m.2.2.2.2.1++[(level,())])[j].1≤2))=true
  by_cases h:j<m.2.2.2.2.1.length
  ·rw [List.getElem_append_left h];exact hm.Xx j h h
  ·have:j=m.2.2.2.2.1.length:=by simp at hj;omega
   subst this;simp [hl.1,hl.2]
 short:=fun j hj _=>by
  have hj:j<(m.2.2.2.2.2.1++[(text,())]).length:=hj;show ByteArray.size (m.2.2.2.2.2.1++[(text,())])[j].1≤60
  by_cases h:j<m.2.2.2.2.2.1.length
  ·rw [List.getElem_append_left h];exact hm.short j h h
  ·have:j=m.2.2.2.2.2.1.length:=by simp at hj;omega
   subst this;simpa using ht
 round:=hm.round
 seen:=hm.seen
 line:=hm.line
 heard:=hm.heard
 last:=hm.last }
def Fj (m:iA) (v:Int):iA:=(m.1,m.2.1,m.2.2.1,m.2.2.2.1,m.2.2.2.2.1,m.2.2.2.2.2.1,m.2.2.2.2.2.2.1,m.2.2.2.2.2.2.2.1,m.2.2.2.2.2.2.2.2.1,v,m.2.2.2.2.2.2.2.2.2.2)
theorem YX {m:iA} (hm:qW m):∃(k:Nat) (n:iA),n=Fj m (m.2.2.2.2.2.2.2.2.2.1+((k:Nat):Int))∧pF m.1 m.2.1 m.2.2.1 m.2.2.2.1 m.2.2.2.2.1 m.2.2.2.2.2.1 m.2.2.2.2.2.2.1 m.2.2.2.2.2.2.2.1 m.2.2.2.2.2.2.2.2.1 m.2.2.2.2.2.2.2.2.2.1 m.2.2.2.2.2.2.2.2.2.2.1 m.2.2.2.2.2.2.2.2.2.2.2.1 m.2.2.2.2.2.2.2.2.2.2.2.2.1 m.2.2.2.2.2.2.2.2.2.2.2.2.2.1 m.2.2.2.2.2.2.2.2.2.2.2.2.2.2.1 m.2.2.2.2.2.2.2.2.2.2.2.2.2.2.2.1=some (n.1,n.2.1,n.2.2.1,n.2.2.2.1,n.2.2.2.2.1,n.2.2.2.2.2.1,n.2.2.2.2.2.2.1,n.2.2.2.2.2.2.2.1,n.2.2.2.2.2.2.2.2.1,n.2.2.2.2.2.2.2.2.2.1,n.2.2.2.2.2.2.2.2.2.2.1,n.2.2.2.2.2.2.2.2.2.2.2.1,n.2.2.2.2.2.2.2.2.2.2.2.2.1,n.2.2.2.2.2.2.2.2.2.2.2.2.2.1,n.2.2.2.2.2.2.2.2.2.2.2.2.2.2.1,n.2.2.2.2.2.2.2.2.2.2.2.2.2.2.2.1,jb m.2.2.2.1 m.2.2.2.2.2.2.2.2.2.1 k,())∧nT m.1 m.2.1 m.2.2.1 m.2.2.2.1 m.2.2.2.2.1 m.2.2.2.2.2.1 m.2.2.2.2.2.2.1 m.2.2.2.2.2.2.2.1 m.2.2.2.2.2.2.2.2.1 m.2.2.2.2.2.2.2.2.2.1 m.2.2.2.2.2.2.2.2.2.2.1 m.2.2.2.2.2.2.2.2.2.2.2.1 m.2.2.2.2.2.2.2.2.2.2.2.2.1 m.2.2.2.2.2.2.2.2.2.2.2.2.2.1 m.2.2.2.2.2.2.2.2.2.2.2.2.2.2.1 m.2.2.2.2.2.2.2.2.2.2.2.2.2.2.2.1=some (n.1,n.2.1,n.2.2.1,n.2.2.2.1,n.2.2.2.2.1,n.2.2.2.2.2.1,n.2.2.2.2.2.2.1,n.2.2.2.2.2.2.2.1,n.2.2.2.2.2.2.2.2.1,n.2.2.2.2.2.2.2.2.2.1,n.2.2.2.2.2.2.2.2.2.2.1,n.2.2.2.2.2.2.2.2.2.2.2.1,n.2.2.2.2.2.2.2.2.2.2.2.2.1,n.2.2.2.2.2.2.2.2.2.2.2.2.2.1,n.2.2.2.2.2.2.2.2.2.2.2.2.2.2.1,n.2.2.2.2.2.2.2.2.2.2.2.2.2.2.2.1,jb m.2.2.2.1 m.2.2.2.2.2.2.2.2.2.1 k,())∧qW n∧
  m.2.2.2.2.2.2.2.2.2.1+((k:Nat):Int)≤((dB m.2.2.2.1:Nat):Int)∧(∀j,j<k→¬Bg m.2.2.2.1 m.2.2.2.2.2.2.2.2.1 (m.2.2.2.2.2.2.2.2.2.1+((j+1:Nat):Int)))∧(m.2.2.2.2.2.2.2.2.2.1+((k:Nat):Int)<((dB m.2.2.2.1:Nat):Int)→Bg m.2.2.2.1 m.2.2.2.2.2.2.2.2.1 (m.2.2.2.2.2.2.2.2.2.1+((k+1:Nat):Int))):=by
 have hw:=hm.small;have hb:=(tH m (Nat.le_trans hw (by decide))).2.2.2 hm;obtain ⟨k,v,h1,h2,h3,_,h5⟩:=N2 m (Nat.le_trans hw (by decide));subst h3;obtain ⟨g1,g2,g3⟩:=h5 hb;have hh:=hm.heard;exact ⟨k,_,rfl,h2,h1,{ ring:=hm.ring,mem:=hm.mem,items:=hm.items,texts:=hm.texts,Xx:=hm.Xx,short:=hm.short,round:=hm.round,seen:=hm.seen,line:=hm.line,heard:=⟨by show 0≤m.2.2.2.2.2.2.2.2.2.1+((k:Nat):Int);omega,g1⟩,last:=hm.last },g1,g2,g3⟩
end Go.TM
set_option linter.unusedSimpArgs false
set_option linter.unusedVariables false
namespace Go.TM
open Go
theorem Mc (c:Int) (xs:List (Int×Unit)) (id:Int) (h:xs.length≤1048576) (hr:dW c xs=some (true,())) (hm:(id,())∈xs):fO id c xs=some (id,c,xs,[],[],[],0,0,0,0,0,0,0,0,0,[],true,()):=by
 unfold fO;simp only [hr,zp _ _ h,ak hm,Option.bind_some,Bool.not_true,cond_false,aT (show (0+xs.length)*8≤lim by unfold lim;omega),cond_true,List.nil_append]
theorem Me (c:Int) (xs:List (Int×Unit)) (id:Int) (h:xs.length≤1048576) (hr:jc c xs=some (true,())) (hm:(id,())∈xs):ja id c xs=some (id,c,xs,[],[],[],0,0,0,0,0,0,0,0,0,[],true,()):=by
 unfold ja cB;simp only [hr,Re _ _ h,ak hm,Option.bind_some,Bool.not_true,cond_false,lA xs h]
theorem map_take {α β:Type} (f:α→β) (xs:List α) {k:Nat} (hk:k<xs.length):(xs.take (k+1)).map f=(xs.take k).map f++[f xs[k]]:=by
 rw [List.take_succ_eq_append_getElem hk,List.map_append];rfl
end Go.TM
set_option linter.unusedSimpArgs false
set_option linter.unusedVariables false
namespace Go.TM
open Go
theorem D8 (xs:List ea) (h:jf xs):gx xs=some (xs,()):=by
 have TZ:=h.len;have hl:=ca (round:=cN) (e:=.inl (xs,())) xs.length (fun k=>(xs,xs.take k,((k:Nat):Int),())) (by
  simp only [cN,gp,aw,aA,aM,cond_false,List.take_length]) (fun k hk=>by
  simp only [cN,gp,aw,aA,aD hk,ax,cond_true,aF,List.getElem?_eq_getElem hk,Option.bind_some,(kO xs[k] (h.at hk)).1,List.length_take,Nat.min_eq_left (Nat.le_of_lt hk),aT (show (k+1)*48≤lim by unfold lim;omega),aN (show k<4611686018427387904 by omega)];rw [List.take_succ_eq_append_getElem hk])
 have hl:aI cN (xs,[],(0:Int),())=_:=hl;unfold gx;rw [hl];rfl
theorem Oa (xs:List EvR) {k:Nat} (hk:k<xs.length) (h:xs.length+wl bu xs≤4194304):xs[k].2.2.1.length≤4194304∧xs[k].2.2.2.2.2.2.2.1.length≤4194304:=by
 have hw:=Hw bu xs xs[k] (List.getElem_mem hk);have:bu xs[k]=(List.length xs[k].2.2.1+wl jK xs[k].2.2.1)+ByteArray.size xs[k].2.2.2.2.2.2.1+(List.length xs[k].2.2.2.2.2.2.2.1+wl jK xs[k].2.2.2.2.2.2.2.1):=rfl;omega
theorem Fk (xs:List EvR) (h:xs.length+wl bu xs≤4194304):cT xs=some (xs,()):=by
 have hl:=ca (round:=cR) (e:=.inl (xs,())) xs.length (fun k=>(xs,xs.take k,((k:Nat):Int),())) (by
  simp only [cR,gQ,aA,aM,cond_false,List.take_length]) (fun k hk=>by
  obtain ⟨e1,e2⟩:=Oa xs hk h;simp only [cR,gQ,aA,aD hk,ax,cond_true,aF,List.getElem?_eq_getElem hk,Option.bind_some,List.length_take,Nat.min_eq_left (Nat.le_of_lt hk),aT (show (0+xs[k].2.2.1.length)*8≤lim by unfold lim;omega),aT (show (0+xs[k].2.2.2.2.2.2.2.1.length)*8≤lim by unfold lim;omega),aT (show (k+1)*104≤lim by unfold lim;omega),aN (show k<4611686018427387904 by omega),List.nil_append];rw [List.take_succ_eq_append_getElem hk])
 have hl:aI cR (xs,[],(0:Int),())=_:=hl;unfold cT;rw [hl];rfl
theorem Ob (d:bZ) (h1:ma (aJ d)≤1048576) (h2:d.2.2.2.2.2.2.2.2.2.2.2.2.2.2.2.2.2.2.2.2.2.1.length≤1048576) (h3:jf d.2.2.2.2.2.2.2.2.2.2.2.2.2.2.2.2.2.2.2.2.2.2.1) (h4:d.2.2.2.2.2.2.2.2.2.2.2.2.2.2.2.2.2.2.2.2.2.2.2.1.length+wl bu d.2.2.2.2.2.2.2.2.2.2.2.2.2.2.2.2.2.2.2.2.2.2.2.1≤4194304):cm d.1 d.2.1 d.2.2.1 d.2.2.2.1 d.2.2.2.2.1 d.2.2.2.2.2.1 d.2.2.2.2.2.2.1 d.2.2.2.2.2.2.2.1 d.2.2.2.2.2.2.2.2.1 d.2.2.2.2.2.2.2.2.2.1 d.2.2.2.2.2.2.2.2.2.2.1 d.2.2.2.2.2.2.2.2.2.2.2.1 d.2.2.2.2.2.2.2.2.2.2.2.2.1 d.2.2.2.2.2.2.2.2.2.2.2.2.2.1 d.2.2.2.2.2.2.2.2.2.2.2.2.2.2.1 d.2.2.2.2.2.2.2.2.2.2.2.2.2.2.2.1 d.2.2.2.2.2.2.2.2.2.2.2.2.2.2.2.2.1 d.2.2.2.2.2.2.2.2.2.2.2.2.2.2.2.2.2.1 d.2.2.2.2.2.2.2.2.2.2.2.2.2.2.2.2.2.2.1 d.2.2.2.2.2.2.2.2.2.2.2.2.2.2.2.2.2.2.2.1 d.2.2.2.2.2.2.2.2.2.2.2.2.2.2.2.2.2.2.2.2.1 d.2.2.2.2.2.2.2.2.2.2.2.2.2.2.2.2.2.2.2.2.2.1 d.2.2.2.2.2.2.2.2.2.2.2.2.2.2.2.2.2.2.2.2.2.2.1 d.2.2.2.2.2.2.2.2.2.2.2.2.2.2.2.2.2.2.2.2.2.2.2.1=some d:=by
 have p:gn d.2.2.1 d.2.2.2.1 d.2.2.2.2.1 d.2.2.2.2.2.1 d.2.2.2.2.2.2.1 d.2.2.2.2.2.2.2.1 d.2.2.2.2.2.2.2.2.1 d.2.2.2.2.2.2.2.2.2.1 d.2.2.2.2.2.2.2.2.2.2.1 d.2.2.2.2.2.2.2.2.2.2.2.1 d.2.2.2.2.2.2.2.2.2.2.2.2.1 d.2.2.2.2.2.2.2.2.2.2.2.2.2.1 d.2.2.2.2.2.2.2.2.2.2.2.2.2.2.1 d.2.2.2.2.2.2.2.2.2.2.2.2.2.2.2.1 d.2.2.2.2.2.2.2.2.2.2.2.2.2.2.2.2.1 d.2.2.2.2.2.2.2.2.2.2.2.2.2.2.2.2.2.1=some (d.2.2.1,d.2.2.2.1,d.2.2.2.2.1,d.2.2.2.2.2.1,d.2.2.2.2.2.2.1,d.2.2.2.2.2.2.2.1,d.2.2.2.2.2.2.2.2.1,d.2.2.2.2.2.2.2.2.2.1,d.2.2.2.2.2.2.2.2.2.2.1,d.2.2.2.2.2.2.2.2.2.2.2.1,d.2.2.2.2.2.2.2.2.2.2.2.2.1,d.2.2.2.2.2.2.2.2.2.2.2.2.2.1,d.2.2.2.2.2.2.2.2.2.2.2.2.2.2.1,d.2.2.2.2.2.2.2.2.2.2.2.2.2.2.2.1,d.2.2.2.2.2.2.2.2.2.2.2.2.2.2.2.2.1,d.2.2.2.2.2.2.2.2.2.2.2.2.2.2.2.2.2.1,())∧fK d.2.2.1 d.2.2.2.1 d.2.2.2.2.1 d.2.2.2.2.2.1 d.2.2.2.2.2.2.1 d.2.2.2.2.2.2.2.1 d.2.2.2.2.2.2.2.2.1 d.2.2.2.2.2.2.2.2.2.1 d.2.2.2.2.2.2.2.2.2.2.1 d.2.2.2.2.2.2.2.2.2.2.2.1 d.2.2.2.2.2.2.2.2.2.2.2.2.1 d.2.2.2.2.2.2.2.2.2.2.2.2.2.1 d.2.2.2.2.2.2.2.2.2.2.2.2.2.2.1 d.2.2.2.2.2.2.2.2.2.2.2.2.2.2.2.1 d.2.2.2.2.2.2.2.2.2.2.2.2.2.2.2.2.1 d.2.2.2.2.2.2.2.2.2.2.2.2.2.2.2.2.2.1=some (d.2.2.1,d.2.2.2.1,d.2.2.2.2.1,d.2.2.2.2.2.1,d.2.2.2.2.2.2.1,d.2.2.2.2.2.2.2.1,d.2.2.2.2.2.2.2.2.1,d.2.2.2.2.2.2.2.2.2.1,d.2.2.2.2.2.2.2.2.2.2.1,d.2.2.2.2.2.2.2.2.2.2.2.1,d.2.2.2.2.2.2.2.2.2.2.2.2.1,d.2.2.2.2.2.2.2.2.2.2.2.2.2.1,d.2.2.2.2.2.2.2.2.2.2.2.2.2.2.1,d.2.2.2.2.2.2.2.2.2.2.2.2.2.2.2.1,d.2.2.2.2.2.2.2.2.2.2.2.2.2.2.2.2.1,d.2.2.2.2.2.2.2.2.2.2.2.2.2.2.2.2.2.1,()):=nG d.2.2.1 d.2.2.2.1 d.2.2.2.2.1 d.2.2.2.2.2.1 d.2.2.2.2.2.2.1 d.2.2.2.2.2.2.2.1 d.2.2.2.2.2.2.2.2.1 d.2.2.2.2.2.2.2.2.2.1 d.2.2.2.2.2.2.2.2.2.2.1 d.2.2.2.2.2.2.2.2.2.2.2.1 d.2.2.2.2.2.2.2.2.2.2.2.2.1 d.2.2.2.2.2.2.2.2.2.2.2.2.2.1 d.2.2.2.2.2.2.2.2.2.2.2.2.2.2.1 d.2.2.2.2.2.2.2.2.2.2.2.2.2.2.2.1 d.2.2.2.2.2.2.2.2.2.2.2.2.2.2.2.2.1 d.2.2.2.2.2.2.2.2.2.2.2.2.2.2.2.2.2.1 h1;unfold cm;delta db;simp only [p.1,D8 d.2.2.2.2.2.2.2.2.2.2.2.2.2.2.2.2.2.2.2.2.2.2.1 h3,Fk d.2.2.2.2.2.2.2.2.2.2.2.2.2.2.2.2.2.2.2.2.2.2.2.1 h4,Option.bind_some,aT (show (0+(d.2.2.2.2.2.2.2.2.2.2.2.2.2.2.2.2.2.2.2.2.2.1).length)*8≤lim by unfold lim;omega),cond_true,List.nil_append]
noncomputable def zT (d:bZ):List xQ:=[(2,d.2.2.2.1,d.2.2.2.2.1,0,0,0,ByteArray.empty,eU d.2.2.2.2.2.2.2.2.2.2.2.2.2.2.2.2.2.2.2.2.2.2.1 d.2.2.2.2.2.2.2.2.2.2.2.2.2.2.2.2.2.2.2.2.1 d.2.2.2.2.2.2.2.2.2.2.2.2.2.2.2.2.2.2.2.2.2.1 d.1,())]++gi d.2.2.2.1 d.2.2.2.2.1 (tP d.2.2.2.2.2.2.2.2.2.2.2.2.2.2.2.2.2.2.2.2.2.2.1 d.2.2.2.2.2.2.2.2.2.2.2.2.2.2.2.2.2.2.2.2.1 d.2.2.2.2.2.2.2.2.2.2.2.2.2.2.2.2.2.2.2.2.2.1 d.1 d.2.2.2.2.2.2.2.2.2.2.2.1)
noncomputable def we (d:bZ):List xQ:=bif decide (0<d.2.2.2.2.2.2.2.2.2.2.2.2.2.2.2.2.2.2.2.1) then d.2.2.2.2.2.2.2.2.2.2.2.2.2.2.2.2.2.2.2.2.2.2.2.1++zT d else d.2.2.2.2.2.2.2.2.2.2.2.2.2.2.2.2.2.2.2.2.2.2.2.1
noncomputable def fl (d:bZ):bZ:=(d.1,d.2.1,d.1,d.2.2.2.2.2.2.2.2.2.2.2.2.2.2.2.2.2.2.2.2.1,d.2.2.2.2.2.2.2.2.2.2.2.2.2.2.2.2.2.2.2.2.2.1,[],d.2.2.2.2.2.2.1,d.2.2.2.2.2.2.2.1,0,0,0,0,0,0,0,0,0,[],d.2.2.2.2.2.2.2.2.2.2.2.2.2.2.2.2.2.2.1,d.2.2.2.2.2.2.2.2.2.2.2.2.2.2.2.2.2.2.2.2.1,0,[],[],we d++[(3,d.2.2.2.2.2.2.2.2.2.2.2.2.2.2.2.2.2.2.2.2.1,d.2.2.2.2.2.2.2.2.2.2.2.2.2.2.2.2.2.2.2.2.2.1,0,0,0,ByteArray.empty,d.2.2.2.2.2.2.2.2.2.2.2.2.2.2.2.2.2.2.2.2.2.1,())],())
def ID (d:bZ):List xQ:=d.2.2.2.2.2.2.2.2.2.2.2.2.2.2.2.2.2.2.2.2.2.2.2.1
def pc (d:bZ) (l:List xQ):bZ:=(d.1,d.2.1,d.2.2.1,d.2.2.2.1,d.2.2.2.2.1,d.2.2.2.2.2.1,d.2.2.2.2.2.2.1,d.2.2.2.2.2.2.2.1,d.2.2.2.2.2.2.2.2.1,d.2.2.2.2.2.2.2.2.2.1,d.2.2.2.2.2.2.2.2.2.2.1,d.2.2.2.2.2.2.2.2.2.2.2.1,d.2.2.2.2.2.2.2.2.2.2.2.2.1,d.2.2.2.2.2.2.2.2.2.2.2.2.2.1,d.2.2.2.2.2.2.2.2.2.2.2.2.2.2.1,d.2.2.2.2.2.2.2.2.2.2.2.2.2.2.2.1,d.2.2.2.2.2.2.2.2.2.2.2.2.2.2.2.2.1,d.2.2.2.2.2.2.2.2.2.2.2.2.2.2.2.2.2.1,d.2.2.2.2.2.2.2.2.2.2.2.2.2.2.2.2.2.2.1,d.2.2.2.2.2.2.2.2.2.2.2.2.2.2.2.2.2.2.2.1,d.2.2.2.2.2.2.2.2.2.2.2.2.2.2.2.2.2.2.2.2.1,d.2.2.2.2.2.2.2.2.2.2.2.2.2.2.2.2.2.2.2.2.2.1,d.2.2.2.2.2.2.2.2.2.2.2.2.2.2.2.2.2.2.2.2.2.2.1,l,())
theorem Mf (d:bZ) (c:Int) (ms:eA) (l:aW) (hr:ms.length≤1048576) (hl:l.length≤1048576) (hg:d.2.2.2.2.2.2.2.2.2.2.2.2.2.2.2.2.2.2.2.2.2.2.2.1.length≤1048577):aI ez (d.1,d.2.1,d.2.2.1,d.2.2.2.1,d.2.2.2.2.1,d.2.2.2.2.2.1,d.2.2.2.2.2.2.1,d.2.2.2.2.2.2.2.1,d.2.2.2.2.2.2.2.2.1,d.2.2.2.2.2.2.2.2.2.1,d.2.2.2.2.2.2.2.2.2.2.1,d.2.2.2.2.2.2.2.2.2.2.2.1,d.2.2.2.2.2.2.2.2.2.2.2.2.1,d.2.2.2.2.2.2.2.2.2.2.2.2.2.1,d.2.2.2.2.2.2.2.2.2.2.2.2.2.2.1,d.2.2.2.2.2.2.2.2.2.2.2.2.2.2.2.1,d.2.2.2.2.2.2.2.2.2.2.2.2.2.2.2.2.1,d.2.2.2.2.2.2.2.2.2.2.2.2.2.2.2.2.2.1,d.2.2.2.2.2.2.2.2.2.2.2.2.2.2.2.2.2.2.1,d.2.2.2.2.2.2.2.2.2.2.2.2.2.2.2.2.2.2.2.1,d.2.2.2.2.2.2.2.2.2.2.2.2.2.2.2.2.2.2.2.2.1,d.2.2.2.2.2.2.2.2.2.2.2.2.2.2.2.2.2.2.2.2.2.1,d.2.2.2.2.2.2.2.2.2.2.2.2.2.2.2.2.2.2.2.2.2.2.1,d.2.2.2.2.2.2.2.2.2.2.2.2.2.2.2.2.2.2.2.2.2.2.2.1,c,ms,l,(0:Int),())=some (.inl (pc d (d.2.2.2.2.2.2.2.2.2.2.2.2.2.2.2.2.2.2.2.2.2.2.2.1++gi c ms l))):=by
 have l1:=ca (round:=ez) (e:=.inl (pc d (d.2.2.2.2.2.2.2.2.2.2.2.2.2.2.2.2.2.2.2.2.2.2.2.1++gi c ms l))) l.length (fun k=>(d.1,d.2.1,d.2.2.1,d.2.2.2.1,d.2.2.2.2.1,d.2.2.2.2.2.1,d.2.2.2.2.2.2.1,d.2.2.2.2.2.2.2.1,d.2.2.2.2.2.2.2.2.1,d.2.2.2.2.2.2.2.2.2.1,d.2.2.2.2.2.2.2.2.2.2.1,d.2.2.2.2.2.2.2.2.2.2.2.1,d.2.2.2.2.2.2.2.2.2.2.2.2.1,d.2.2.2.2.2.2.2.2.2.2.2.2.2.1,d.2.2.2.2.2.2.2.2.2.2.2.2.2.2.1,d.2.2.2.2.2.2.2.2.2.2.2.2.2.2.2.1,d.2.2.2.2.2.2.2.2.2.2.2.2.2.2.2.2.1,d.2.2.2.2.2.2.2.2.2.2.2.2.2.2.2.2.2.1,d.2.2.2.2.2.2.2.2.2.2.2.2.2.2.2.2.2.2.1,d.2.2.2.2.2.2.2.2.2.2.2.2.2.2.2.2.2.2.2.1,d.2.2.2.2.2.2.2.2.2.2.2.2.2.2.2.2.2.2.2.2.1,d.2.2.2.2.2.2.2.2.2.2.2.2.2.2.2.2.2.2.2.2.2.1,d.2.2.2.2.2.2.2.2.2.2.2.2.2.2.2.2.2.2.2.2.2.2.1,d.2.2.2.2.2.2.2.2.2.2.2.2.2.2.2.2.2.2.2.2.2.2.2.1++gi c ms (l.take k),c,ms,l,((k:Nat):Int),())) (by
  simp only [ez,az,aw,pq,aA,aM,cond_false,List.take_length,pc]) (fun k hk=>by
  have hlen:(d.2.2.2.2.2.2.2.2.2.2.2.2.2.2.2.2.2.2.2.2.2.2.2.1++gi c ms (l.take k)).length≤1048577+1048576:=by
   rw [List.length_append,n7,List.length_take];omega
  simp only [ez,az,aw,pq,aA,aD hk,ax,cond_true,aF,fW hk,List.getElem?_eq_getElem hk,Option.bind_some,mH _ _ hr,aT (show ((d.2.2.2.2.2.2.2.2.2.2.2.2.2.2.2.2.2.2.2.2.2.2.2.1++gi c ms (l.take k)).length+1)*104≤lim by unfold lim;omega),aN (show k<4611686018427387904 by omega)];rw [D6 hk])
 have l1:aI ez (d.1,d.2.1,d.2.2.1,d.2.2.2.1,d.2.2.2.2.1,d.2.2.2.2.2.1,d.2.2.2.2.2.2.1,d.2.2.2.2.2.2.2.1,d.2.2.2.2.2.2.2.2.1,d.2.2.2.2.2.2.2.2.2.1,d.2.2.2.2.2.2.2.2.2.2.1,d.2.2.2.2.2.2.2.2.2.2.2.1,d.2.2.2.2.2.2.2.2.2.2.2.2.1,d.2.2.2.2.2.2.2.2.2.2.2.2.2.1,d.2.2.2.2.2.2.2.2.2.2.2.2.2.2.1,d.2.2.2.2.2.2.2.2.2.2.2.2.2.2.2.1,d.2.2.2.2.2.2.2.2.2.2.2.2.2.2.2.2.1,d.2.2.2.2.2.2.2.2.2.2.2.2.2.2.2.2.2.1,d.2.2.2.2.2.2.2.2.2.2.2.2.2.2.2.2.2.2.1,d.2.2.2.2.2.2.2.2.2.2.2.2.2.2.2.2.2.2.2.1,d.2.2.2.2.2.2.2.2.2.2.2.2.2.2.2.2.2.2.2.2.1,d.2.2.2.2.2.2.2.2.2.2.2.2.2.2.2.2.2.2.2.2.2.1,d.2.2.2.2.2.2.2.2.2.2.2.2.2.2.2.2.2.2.2.2.2.2.1,d.2.2.2.2.2.2.2.2.2.2.2.2.2.2.2.2.2.2.2.2.2.2.2.1++gi c ms (l.take 0),c,ms,l,(0:Int),())=_:=l1;rw [show gi c ms (l.take 0)=[] from rfl,List.append_nil] at l1;exact l1
theorem TD (d:bZ) (l:aW) (hr:d.2.2.2.2.1.length≤1048576) (hl:l.length≤1048576) (hg:d.2.2.2.2.2.2.2.2.2.2.2.2.2.2.2.2.2.2.2.2.2.2.2.1.length≤1048577):ju d.1 d.2.1 d.2.2.1 d.2.2.2.1 d.2.2.2.2.1 d.2.2.2.2.2.1 d.2.2.2.2.2.2.1 d.2.2.2.2.2.2.2.1 d.2.2.2.2.2.2.2.2.1 d.2.2.2.2.2.2.2.2.2.1 d.2.2.2.2.2.2.2.2.2.2.1 d.2.2.2.2.2.2.2.2.2.2.2.1 d.2.2.2.2.2.2.2.2.2.2.2.2.1 d.2.2.2.2.2.2.2.2.2.2.2.2.2.1 d.2.2.2.2.2.2.2.2.2.2.2.2.2.2.1 d.2.2.2.2.2.2.2.2.2.2.2.2.2.2.2.1 d.2.2.2.2.2.2.2.2.2.2.2.2.2.2.2.2.1 d.2.2.2.2.2.2.2.2.2.2.2.2.2.2.2.2.2.1 d.2.2.2.2.2.2.2.2.2.2.2.2.2.2.2.2.2.2.1 d.2.2.2.2.2.2.2.2.2.2.2.2.2.2.2.2.2.2.2.1 d.2.2.2.2.2.2.2.2.2.2.2.2.2.2.2.2.2.2.2.2.1 d.2.2.2.2.2.2.2.2.2.2.2.2.2.2.2.2.2.2.2.2.2.1 d.2.2.2.2.2.2.2.2.2.2.2.2.2.2.2.2.2.2.2.2.2.2.1 d.2.2.2.2.2.2.2.2.2.2.2.2.2.2.2.2.2.2.2.2.2.2.2.1 l=some (pc d (d.2.2.2.2.2.2.2.2.2.2.2.2.2.2.2.2.2.2.2.2.2.2.2.1++gi d.2.2.2.1 d.2.2.2.2.1 l)):=by
 have l1:=ca (round:=gC) (e:=.inl (pc d (d.2.2.2.2.2.2.2.2.2.2.2.2.2.2.2.2.2.2.2.2.2.2.2.1++gi d.2.2.2.1 d.2.2.2.2.1 l))) l.length (fun k=>(d.1,d.2.1,d.2.2.1,d.2.2.2.1,d.2.2.2.2.1,d.2.2.2.2.2.1,d.2.2.2.2.2.2.1,d.2.2.2.2.2.2.2.1,d.2.2.2.2.2.2.2.2.1,d.2.2.2.2.2.2.2.2.2.1,d.2.2.2.2.2.2.2.2.2.2.1,d.2.2.2.2.2.2.2.2.2.2.2.1,d.2.2.2.2.2.2.2.2.2.2.2.2.1,d.2.2.2.2.2.2.2.2.2.2.2.2.2.1,d.2.2.2.2.2.2.2.2.2.2.2.2.2.2.1,d.2.2.2.2.2.2.2.2.2.2.2.2.2.2.2.1,d.2.2.2.2.2.2.2.2.2.2.2.2.2.2.2.2.1,d.2.2.2.2.2.2.2.2.2.2.2.2.2.2.2.2.2.1,d.2.2.2.2.2.2.2.2.2.2.2.2.2.2.2.2.2.2.1,d.2.2.2.2.2.2.2.2.2.2.2.2.2.2.2.2.2.2.2.1,d.2.2.2.2.2.2.2.2.2.2.2.2.2.2.2.2.2.2.2.2.1,d.2.2.2.2.2.2.2.2.2.2.2.2.2.2.2.2.2.2.2.2.2.1,d.2.2.2.2.2.2.2.2.2.2.2.2.2.2.2.2.2.2.2.2.2.2.1,d.2.2.2.2.2.2.2.2.2.2.2.2.2.2.2.2.2.2.2.2.2.2.2.1++gi d.2.2.2.1 d.2.2.2.2.1 (l.take k),l,((List.length l:Nat):Int),((k:Nat):Int),())) (by
  simp only [gC,az,ow,aA,aM,cond_false,List.take_length,pc]) (fun k hk=>by
  have hlen:(d.2.2.2.2.2.2.2.2.2.2.2.2.2.2.2.2.2.2.2.2.2.2.2.1++gi d.2.2.2.1 d.2.2.2.2.1 (l.take k)).length≤1048577+1048576:=by
   rw [List.length_append,n7,List.length_take];omega
  simp only [gC,az,ow,aA,aD hk,ax,cond_true,aF,List.getElem?_eq_getElem hk,Option.bind_some,oT _ _ hr,aT (show ((d.2.2.2.2.2.2.2.2.2.2.2.2.2.2.2.2.2.2.2.2.2.2.2.1++gi d.2.2.2.1 d.2.2.2.2.1 (l.take k)).length+1)*104≤lim by unfold lim;omega),aN (show k<4611686018427387904 by omega)];rw [D6 hk])
 have l1:aI gC (d.1,d.2.1,d.2.2.1,d.2.2.2.1,d.2.2.2.2.1,d.2.2.2.2.2.1,d.2.2.2.2.2.2.1,d.2.2.2.2.2.2.2.1,d.2.2.2.2.2.2.2.2.1,d.2.2.2.2.2.2.2.2.2.1,d.2.2.2.2.2.2.2.2.2.2.1,d.2.2.2.2.2.2.2.2.2.2.2.1,d.2.2.2.2.2.2.2.2.2.2.2.2.1,d.2.2.2.2.2.2.2.2.2.2.2.2.2.1,d.2.2.2.2.2.2.2.2.2.2.2.2.2.2.1,d.2.2.2.2.2.2.2.2.2.2.2.2.2.2.2.1,d.2.2.2.2.2.2.2.2.2.2.2.2.2.2.2.2.1,d.2.2.2.2.2.2.2.2.2.2.2.2.2.2.2.2.2.1,d.2.2.2.2.2.2.2.2.2.2.2.2.2.2.2.2.2.2.1,d.2.2.2.2.2.2.2.2.2.2.2.2.2.2.2.2.2.2.2.1,d.2.2.2.2.2.2.2.2.2.2.2.2.2.2.2.2.2.2.2.2.1,d.2.2.2.2.2.2.2.2.2.2.2.2.2.2.2.2.2.2.2.2.2.1,d.2.2.2.2.2.2.2.2.2.2.2.2.2.2.2.2.2.2.2.2.2.2.1,d.2.2.2.2.2.2.2.2.2.2.2.2.2.2.2.2.2.2.2.2.2.2.2.1++gi d.2.2.2.1 d.2.2.2.2.1 (l.take 0),l,((List.length l:Nat):Int),(0:Int),())=_:=l1;rw [show gi d.2.2.2.1 d.2.2.2.2.1 (l.take 0)=[] from rfl,List.append_nil] at l1;unfold ju;rw [l1];rfl
theorem Fl (xs:List ea) (c:Int) (ms:eA) (id heard:Int) (h:jf xs):(tP xs c ms id heard).length≤60∧wl dD (tP xs c ms id heard)≤3600:=P7 xs c ms id heard h
theorem zD (d:bZ) (hr:oR d.2.2.2.2.2.2.2.2.2.2.2.2.2.2.2.2.2.2.2.2.1 d.2.2.2.2.2.2.2.2.2.2.2.2.2.2.2.2.2.2.2.2.2.1) (hm:(d.1,())∈d.2.2.2.2.2.2.2.2.2.2.2.2.2.2.2.2.2.2.2.2.2.1) (h3:jf d.2.2.2.2.2.2.2.2.2.2.2.2.2.2.2.2.2.2.2.2.2.2.1) (h4:d.2.2.2.2.1.length≤1048576) (hg:d.2.2.2.2.2.2.2.2.2.2.2.2.2.2.2.2.2.2.2.2.2.2.2.1.length≤1048576):eF d.1 d.2.1 d.2.2.1 d.2.2.2.1 d.2.2.2.2.1 d.2.2.2.2.2.1 d.2.2.2.2.2.2.1 d.2.2.2.2.2.2.2.1 d.2.2.2.2.2.2.2.2.1 d.2.2.2.2.2.2.2.2.2.1 d.2.2.2.2.2.2.2.2.2.2.1 d.2.2.2.2.2.2.2.2.2.2.2.1 d.2.2.2.2.2.2.2.2.2.2.2.2.1 d.2.2.2.2.2.2.2.2.2.2.2.2.2.1 d.2.2.2.2.2.2.2.2.2.2.2.2.2.2.1 d.2.2.2.2.2.2.2.2.2.2.2.2.2.2.2.1 d.2.2.2.2.2.2.2.2.2.2.2.2.2.2.2.2.1 d.2.2.2.2.2.2.2.2.2.2.2.2.2.2.2.2.2.1 d.2.2.2.2.2.2.2.2.2.2.2.2.2.2.2.2.2.2.1 d.2.2.2.2.2.2.2.2.2.2.2.2.2.2.2.2.2.2.2.1 d.2.2.2.2.2.2.2.2.2.2.2.2.2.2.2.2.2.2.2.2.1 d.2.2.2.2.2.2.2.2.2.2.2.2.2.2.2.2.2.2.2.2.2.1 d.2.2.2.2.2.2.2.2.2.2.2.2.2.2.2.2.2.2.2.2.2.2.1 d.2.2.2.2.2.2.2.2.2.2.2.2.2.2.2.2.2.2.2.2.2.2.2.1=some (fl d)∧dZ d.1 d.2.1 d.2.2.1 d.2.2.2.1 d.2.2.2.2.1 d.2.2.2.2.2.1 d.2.2.2.2.2.2.1 d.2.2.2.2.2.2.2.1 d.2.2.2.2.2.2.2.2.1 d.2.2.2.2.2.2.2.2.2.1 d.2.2.2.2.2.2.2.2.2.2.1 d.2.2.2.2.2.2.2.2.2.2.2.1 d.2.2.2.2.2.2.2.2.2.2.2.2.1 d.2.2.2.2.2.2.2.2.2.2.2.2.2.1 d.2.2.2.2.2.2.2.2.2.2.2.2.2.2.1 d.2.2.2.2.2.2.2.2.2.2.2.2.2.2.2.1 d.2.2.2.2.2.2.2.2.2.2.2.2.2.2.2.2.1 d.2.2.2.2.2.2.2.2.2.2.2.2.2.2.2.2.2.1 d.2.2.2.2.2.2.2.2.2.2.2.2.2.2.2.2.2.2.1 d.2.2.2.2.2.2.2.2.2.2.2.2.2.2.2.2.2.2.2.1 d.2.2.2.2.2.2.2.2.2.2.2.2.2.2.2.2.2.2.2.2.1 d.2.2.2.2.2.2.2.2.2.2.2.2.2.2.2.2.2.2.2.2.2.1 d.2.2.2.2.2.2.2.2.2.2.2.2.2.2.2.2.2.2.2.2.2.2.1 d.2.2.2.2.2.2.2.2.2.2.2.2.2.2.2.2.2.2.2.2.2.2.2.1=some (fl d):=by
 have h5:=hr.2.1.2;have h5:d.2.2.2.2.2.2.2.2.2.2.2.2.2.2.2.2.2.2.2.2.2.1.length≤1048576:=by omega
 obtain ⟨q1,q2,q3⟩:=uB d.2.2.2.2.2.2.2.2.2.2.2.2.2.2.2.2.2.2.2.2.1 d.2.2.2.2.2.2.2.2.2.2.2.2.2.2.2.2.2.2.2.2.2.1 h5;rw [q3.2 hr] at q1 q2;have m1:=Mc d.2.2.2.2.2.2.2.2.2.2.2.2.2.2.2.2.2.2.2.2.1 d.2.2.2.2.2.2.2.2.2.2.2.2.2.2.2.2.2.2.2.2.2.1 d.1 h5 q1 hm;have m2:=Me d.2.2.2.2.2.2.2.2.2.2.2.2.2.2.2.2.2.2.2.2.1 d.2.2.2.2.2.2.2.2.2.2.2.2.2.2.2.2.2.2.2.2.2.1 d.1 h5 q2 hm;obtain ⟨t1,t2,t3⟩:=so d.2.2.2.2.2.2.2.2.2.2.2.2.2.2.2.2.2.2.2.2.1 d.2.2.2.2.2.2.2.2.2.2.2.2.2.2.2.2.2.2.2.2.2.1 d.2.2.2.2.2.2.2.2.2.2.2.2.2.2.2.2.2.2.2.2.2.2.1 d.1 h5 h3;obtain ⟨r1,r2⟩:=Tx d.2.2.2.2.2.2.2.2.2.2.2.2.2.2.2.2.2.2.2.2.1 d.2.2.2.2.2.2.2.2.2.2.2.2.2.2.2.2.2.2.2.2.2.1 d.2.2.2.2.2.2.2.2.2.2.2.2.2.2.2.2.2.2.2.2.2.2.1 d.1 d.2.2.2.2.2.2.2.2.2.2.2.1 h5 h3;obtain ⟨z1,z2⟩:=Fl d.2.2.2.2.2.2.2.2.2.2.2.2.2.2.2.2.2.2.2.2.2.2.1 d.2.2.2.2.2.2.2.2.2.2.2.2.2.2.2.2.2.2.2.2.1 d.2.2.2.2.2.2.2.2.2.2.2.2.2.2.2.2.2.2.2.2.2.1 d.1 d.2.2.2.2.2.2.2.2.2.2.2.1 h3;have c1:=lA d.2.2.2.2.2.2.2.2.2.2.2.2.2.2.2.2.2.2.2.2.2.1 h5;have c2:=oT d.2.2.2.2.2.2.2.2.2.2.2.2.2.2.2.2.2.2.2.2.1 d.2.2.2.2.2.2.2.2.2.2.2.2.2.2.2.2.2.2.2.2.2.1 h5;have c3:=mH d.2.2.2.2.2.2.2.2.2.2.2.2.2.2.2.2.2.2.2.2.1 d.2.2.2.2.2.2.2.2.2.2.2.2.2.2.2.2.2.2.2.2.2.1 h5;have c4:=oT d.2.2.2.1 d.2.2.2.2.1 h4;have c5:=mH d.2.2.2.1 d.2.2.2.2.1 h4;generalize gG:tP d.2.2.2.2.2.2.2.2.2.2.2.2.2.2.2.2.2.2.2.2.2.2.1 d.2.2.2.2.2.2.2.2.2.2.2.2.2.2.2.2.2.2.2.2.1 d.2.2.2.2.2.2.2.2.2.2.2.2.2.2.2.2.2.2.2.2.2.1 d.1 d.2.2.2.2.2.2.2.2.2.2.2.1=rest at *;generalize akH:eU d.2.2.2.2.2.2.2.2.2.2.2.2.2.2.2.2.2.2.2.2.2.2.1 d.2.2.2.2.2.2.2.2.2.2.2.2.2.2.2.2.2.2.2.2.1 d.2.2.2.2.2.2.2.2.2.2.2.2.2.2.2.2.2.2.2.2.2.1 d.1=B8 at *;have hlen:(d.2.2.2.2.2.2.2.2.2.2.2.2.2.2.2.2.2.2.2.2.2.2.2.1++[((2,d.2.2.2.1,d.2.2.2.2.1,0,0,0,ByteArray.empty,B8,()):xQ)]).length≤1048577:=by rw [List.length_append,List.length_singleton];omega
 have i1:=Mf (pc d (d.2.2.2.2.2.2.2.2.2.2.2.2.2.2.2.2.2.2.2.2.2.2.2.1++[(2,d.2.2.2.1,d.2.2.2.2.1,0,0,0,ByteArray.empty,B8,())])) d.2.2.2.1 d.2.2.2.2.1 rest h4 (by omega) hlen;have i2:=TD (pc d (d.2.2.2.2.2.2.2.2.2.2.2.2.2.2.2.2.2.2.2.2.2.2.2.1++[(2,d.2.2.2.1,d.2.2.2.2.1,0,0,0,ByteArray.empty,B8,())])) rest h4 (by omega) hlen;have i1:aI ez (d.1,d.2.1,d.2.2.1,d.2.2.2.1,d.2.2.2.2.1,d.2.2.2.2.2.1,d.2.2.2.2.2.2.1,d.2.2.2.2.2.2.2.1,d.2.2.2.2.2.2.2.2.1,d.2.2.2.2.2.2.2.2.2.1,d.2.2.2.2.2.2.2.2.2.2.1,d.2.2.2.2.2.2.2.2.2.2.2.1,d.2.2.2.2.2.2.2.2.2.2.2.2.1,d.2.2.2.2.2.2.2.2.2.2.2.2.2.1,d.2.2.2.2.2.2.2.2.2.2.2.2.2.2.1,d.2.2.2.2.2.2.2.2.2.2.2.2.2.2.2.1,d.2.2.2.2.2.2.2.2.2.2.2.2.2.2.2.2.1,d.2.2.2.2.2.2.2.2.2.2.2.2.2.2.2.2.2.1,d.2.2.2.2.2.2.2.2.2.2.2.2.2.2.2.2.2.2.1,d.2.2.2.2.2.2.2.2.2.2.2.2.2.2.2.2.2.2.2.1,d.2.2.2.2.2.2.2.2.2.2.2.2.2.2.2.2.2.2.2.2.1,d.2.2.2.2.2.2.2.2.2.2.2.2.2.2.2.2.2.2.2.2.2.1,d.2.2.2.2.2.2.2.2.2.2.2.2.2.2.2.2.2.2.2.2.2.2.1,d.2.2.2.2.2.2.2.2.2.2.2.2.2.2.2.2.2.2.2.2.2.2.2.1++[(2,d.2.2.2.1,d.2.2.2.2.1,0,0,0,ByteArray.empty,B8,())],d.2.2.2.1,d.2.2.2.2.1,rest,(0:Int),())=some (.inl (pc d ((d.2.2.2.2.2.2.2.2.2.2.2.2.2.2.2.2.2.2.2.2.2.2.2.1++[(2,d.2.2.2.1,d.2.2.2.2.1,0,0,0,ByteArray.empty,B8,())])++gi d.2.2.2.1 d.2.2.2.2.1 rest))):=i1;have i2:ju d.1 d.2.1 d.2.2.1 d.2.2.2.1 d.2.2.2.2.1 d.2.2.2.2.2.1 d.2.2.2.2.2.2.1 d.2.2.2.2.2.2.2.1 d.2.2.2.2.2.2.2.2.1 d.2.2.2.2.2.2.2.2.2.1 d.2.2.2.2.2.2.2.2.2.2.1 d.2.2.2.2.2.2.2.2.2.2.2.1 d.2.2.2.2.2.2.2.2.2.2.2.2.1 d.2.2.2.2.2.2.2.2.2.2.2.2.2.1 d.2.2.2.2.2.2.2.2.2.2.2.2.2.2.1 d.2.2.2.2.2.2.2.2.2.2.2.2.2.2.2.1 d.2.2.2.2.2.2.2.2.2.2.2.2.2.2.2.2.1 d.2.2.2.2.2.2.2.2.2.2.2.2.2.2.2.2.2.1 d.2.2.2.2.2.2.2.2.2.2.2.2.2.2.2.2.2.2.1 d.2.2.2.2.2.2.2.2.2.2.2.2.2.2.2.2.2.2.2.1 d.2.2.2.2.2.2.2.2.2.2.2.2.2.2.2.2.2.2.2.2.1 d.2.2.2.2.2.2.2.2.2.2.2.2.2.2.2.2.2.2.2.2.2.1 d.2.2.2.2.2.2.2.2.2.2.2.2.2.2.2.2.2.2.2.2.2.2.1 (d.2.2.2.2.2.2.2.2.2.2.2.2.2.2.2.2.2.2.2.2.2.2.2.1++[(2,d.2.2.2.1,d.2.2.2.2.1,0,0,0,ByteArray.empty,B8,())]) rest=some (pc d ((d.2.2.2.2.2.2.2.2.2.2.2.2.2.2.2.2.2.2.2.2.2.2.2.1++[(2,d.2.2.2.1,d.2.2.2.2.1,0,0,0,ByteArray.empty,B8,())])++gi d.2.2.2.1 d.2.2.2.2.1 rest)):=i2;have Wn:Nat.ble ((d.2.2.2.2.2.2.2.2.2.2.2.2.2.2.2.2.2.2.2.2.2.2.2.1.length+1)*104) lim=true:=aT (by unfold lim;omega);have Ms:Nat.ble ((((d.2.2.2.2.2.2.2.2.2.2.2.2.2.2.2.2.2.2.2.2.2.2.2.1++[((2,d.2.2.2.1,d.2.2.2.2.1,0,0,0,ByteArray.empty,B8,()):xQ)])++gi d.2.2.2.1 d.2.2.2.2.1 rest).length+1)*104) lim=true:=aT (by rw [List.length_append,n7];unfold lim;omega);have hb3:Nat.ble ((0+d.2.2.2.2.2.2.2.2.2.2.2.2.2.2.2.2.2.2.2.2.2.1.length)*8) lim=true:=aT (by unfold lim;omega);unfold fl we zT;rw [gG,akH]
 by_cases ho:0<d.2.2.2.2.2.2.2.2.2.2.2.2.2.2.2.2.2.2.2.1
 ·constructor
  ·unfold eF;delta aA ev;simp only [ak ho,cond_true,c5,t1,Wn,r1,i1,bW,Option.bind_some,pc,c3,hb3,Ms,m1,List.nil_append];simp only [List.append_assoc]
  ·unfold dZ;delta aA ev;simp only [ak ho,cond_true,c4,t2,Wn,r2,i2,Option.bind_some,pc,c2,c1,Ms,m2];simp only [List.append_assoc]
 ·constructor
  ·unfold eF;delta aA ev;simp only [aq ho,cond_false,cond_true,c3,Wn,hb3,m1,Option.bind_some,List.nil_append]
  ·unfold dZ;delta aA ev;simp only [aq ho,cond_false,cond_true,c2,c1,Wn,m2,Option.bind_some]
theorem Mg (d:bZ) (hr:d.2.2.2.2.2.2.2.2.2.2.2.2.2.2.2.2.2.2.2.2.2.1.length≤5) (h4:d.2.2.2.2.1.length≤5) (h3:jf d.2.2.2.2.2.2.2.2.2.2.2.2.2.2.2.2.2.2.2.2.2.2.1) (h6:d.2.2.2.2.2.2.1.length≤1048576) (h7:d.2.2.2.2.2.2.2.1.length+wl Jo d.2.2.2.2.2.2.2.1≤1048576) (hg:d.2.2.2.2.2.2.2.2.2.2.2.2.2.2.2.2.2.2.2.2.2.2.2.1.length+wl bu d.2.2.2.2.2.2.2.2.2.2.2.2.2.2.2.2.2.2.2.2.2.2.2.1≤1048576) :
  ma (aJ (fl d))≤2097157∧(ID (fl d)).length+wl bu (ID (fl d))≤1060000:=by
 obtain ⟨z1,z2⟩:=Fl d.2.2.2.2.2.2.2.2.2.2.2.2.2.2.2.2.2.2.2.2.2.2.1 d.2.2.2.2.2.2.2.2.2.2.2.2.2.2.2.2.2.2.2.2.1 d.2.2.2.2.2.2.2.2.2.2.2.2.2.2.2.2.2.2.2.2.2.1 d.1 d.2.2.2.2.2.2.2.2.2.2.2.1 h3;obtain ⟨_,_,t3⟩:=so d.2.2.2.2.2.2.2.2.2.2.2.2.2.2.2.2.2.2.2.2.1 d.2.2.2.2.2.2.2.2.2.2.2.2.2.2.2.2.2.2.2.2.2.1 d.2.2.2.2.2.2.2.2.2.2.2.2.2.2.2.2.2.2.2.2.2.2.1 d.1 (by omega) h3;have w0:∀l:eA,wl jK l=0:=fun l=>mW jK (fun _=>rfl) l
 constructor
 ·have e:ma (aJ (fl d))=(List.length d.2.2.2.2.2.2.2.2.2.2.2.2.2.2.2.2.2.2.2.2.2.1+wl jK d.2.2.2.2.2.2.2.2.2.2.2.2.2.2.2.2.2.2.2.2.2.1)+0+(List.length d.2.2.2.2.2.2.1+wl jK d.2.2.2.2.2.2.1)+(List.length d.2.2.2.2.2.2.2.1+wl Jo d.2.2.2.2.2.2.2.1)+0:=rfl;rw [e,w0,w0];omega
 ·have e:ID (fl d)=we d++[(3,d.2.2.2.2.2.2.2.2.2.2.2.2.2.2.2.2.2.2.2.2.1,d.2.2.2.2.2.2.2.2.2.2.2.2.2.2.2.2.2.2.2.2.2.1,0,0,0,ByteArray.empty,d.2.2.2.2.2.2.2.2.2.2.2.2.2.2.2.2.2.2.2.2.2.1,())]:=rfl;have e1:bu ((3,d.2.2.2.2.2.2.2.2.2.2.2.2.2.2.2.2.2.2.2.2.1,d.2.2.2.2.2.2.2.2.2.2.2.2.2.2.2.2.2.2.2.2.2.1,0,0,0,ByteArray.empty,d.2.2.2.2.2.2.2.2.2.2.2.2.2.2.2.2.2.2.2.2.2.1,()):xQ)=(d.2.2.2.2.2.2.2.2.2.2.2.2.2.2.2.2.2.2.2.2.2.1.length+wl jK d.2.2.2.2.2.2.2.2.2.2.2.2.2.2.2.2.2.2.2.2.2.1)+0+(d.2.2.2.2.2.2.2.2.2.2.2.2.2.2.2.2.2.2.2.2.2.1.length+wl jK d.2.2.2.2.2.2.2.2.2.2.2.2.2.2.2.2.2.2.2.2.2.1):=rfl;have e2:bu ((2,d.2.2.2.1,d.2.2.2.2.1,0,0,0,ByteArray.empty,eU d.2.2.2.2.2.2.2.2.2.2.2.2.2.2.2.2.2.2.2.2.2.2.1 d.2.2.2.2.2.2.2.2.2.2.2.2.2.2.2.2.2.2.2.2.1 d.2.2.2.2.2.2.2.2.2.2.2.2.2.2.2.2.2.2.2.2.2.1 d.1,()):xQ)=(d.2.2.2.2.1.length+wl jK d.2.2.2.2.1)+0+((eU d.2.2.2.2.2.2.2.2.2.2.2.2.2.2.2.2.2.2.2.2.2.2.1 d.2.2.2.2.2.2.2.2.2.2.2.2.2.2.2.2.2.2.2.2.1 d.2.2.2.2.2.2.2.2.2.2.2.2.2.2.2.2.2.2.2.2.2.1 d.1).length+wl jK (eU d.2.2.2.2.2.2.2.2.2.2.2.2.2.2.2.2.2.2.2.2.2.2.1 d.2.2.2.2.2.2.2.2.2.2.2.2.2.2.2.2.2.2.2.2.1 d.2.2.2.2.2.2.2.2.2.2.2.2.2.2.2.2.2.2.2.2.2.1 d.1)):=rfl;have e3:(we d).length+wl bu (we d)≤1048576+8000:=by
   unfold we
   cases decide (0<d.2.2.2.2.2.2.2.2.2.2.2.2.2.2.2.2.2.2.2.1)
   ·show d.2.2.2.2.2.2.2.2.2.2.2.2.2.2.2.2.2.2.2.2.2.2.2.1.length+wl bu d.2.2.2.2.2.2.2.2.2.2.2.2.2.2.2.2.2.2.2.2.2.2.2.1≤_;omega
   ·show (d.2.2.2.2.2.2.2.2.2.2.2.2.2.2.2.2.2.2.2.2.2.2.2.1++zT d).length+wl bu (d.2.2.2.2.2.2.2.2.2.2.2.2.2.2.2.2.2.2.2.2.2.2.2.1++zT d)≤_;unfold zT;rw [Hv,Hv,Rh,List.length_append,List.length_append,n7,sb,Lx,e2,w0,w0,List.length_singleton];have:=Nat.mul_le_mul z1 (show d.2.2.2.2.1.length+0≤5 by omega);omega
  rw [e,Hv,List.length_append,sb,Lx,e1,w0,List.length_singleton];omega
def eo (d:bZ) (bs:List ea):bZ:=(d.1,d.2.1,d.2.2.1,d.2.2.2.1,d.2.2.2.2.1,d.2.2.2.2.2.1,d.2.2.2.2.2.2.1,d.2.2.2.2.2.2.2.1,d.2.2.2.2.2.2.2.2.1,d.2.2.2.2.2.2.2.2.2.1,d.2.2.2.2.2.2.2.2.2.2.1,d.2.2.2.2.2.2.2.2.2.2.2.1,d.2.2.2.2.2.2.2.2.2.2.2.2.1,d.2.2.2.2.2.2.2.2.2.2.2.2.2.1,d.2.2.2.2.2.2.2.2.2.2.2.2.2.2.1,d.2.2.2.2.2.2.2.2.2.2.2.2.2.2.2.1,d.2.2.2.2.2.2.2.2.2.2.2.2.2.2.2.2.1,d.2.2.2.2.2.2.2.2.2.2.2.2.2.2.2.2.2.1,d.2.2.2.2.2.2.2.2.2.2.2.2.2.2.2.2.2.2.1,d.2.2.2.2.2.2.2.2.2.2.2.2.2.2.2.2.2.2.2.1,d.2.2.2.2.2.2.2.2.2.2.2.2.2.2.2.2.2.2.2.2.1,d.2.2.2.2.2.2.2.2.2.2.2.2.2.2.2.2.2.2.2.2.2.1,bs,d.2.2.2.2.2.2.2.2.2.2.2.2.2.2.2.2.2.2.2.2.2.2.2.1,())
noncomputable def eX (d:bZ) (b:ea):bZ:=bif lQ d.2.2.2.2.2.2.2.2.2.2.2.2.2.2.2.2.2.2.2.2.1 d.2.2.2.2.2.2.2.2.2.2.2.2.2.2.2.2.2.2.2.2.2.1 (d.2.2.2.2.2.2.2.2.2.2.2.2.2.2.2.2.2.2.2.2.2.2.1++[b]) then fl (eo d (d.2.2.2.2.2.2.2.2.2.2.2.2.2.2.2.2.2.2.2.2.2.2.1++[b])) else eo d (d.2.2.2.2.2.2.2.2.2.2.2.2.2.2.2.2.2.2.2.2.2.2.1++[b])
noncomputable def xW (d:bZ) (b:ea):Bool:=mb d&&(qL b&&(!decide (d.2.2.2.2.2.2.2.2.2.2.2.2.2.2.2.2.2.2.2.2.1=0)&&(decide (b.2.1=d.2.2.2.2.2.2.2.2.2.2.2.2.2.2.2.2.2.2.2.2.1) && !(ir d.2.2.2.2.2.2.2.2.2.2.2.2.2.2.2.2.2.2.2.2.2.2.1 d.2.2.2.2.2.2.2.2.2.2.2.2.2.2.2.2.2.2.2.2.1 b.1).isSome)))
noncomputable def bj (d:bZ) (b:ea):bZ×Bool:=bif xW d b then (eX d b,true) else (d,false)
theorem IE (o:Option ea):(tG o).2.2.2.2.1=o.isSome:=by cases o<;>rfl
theorem wO (d:bZ) (b:ea) (h:mT d≤1048576) (hb:b.2.2.2.1.length≤1048576) (hd:mb d=true) (hn:¬d.2.2.2.2.2.2.2.2.2.2.2.2.2.2.2.2.2.2.2.2.1=0):xR d∧oR d.2.2.2.2.2.2.2.2.2.2.2.2.2.2.2.2.2.2.2.2.1 d.2.2.2.2.2.2.2.2.2.2.2.2.2.2.2.2.2.2.2.2.2.1∧(d.1,())∈d.2.2.2.2.2.2.2.2.2.2.2.2.2.2.2.2.2.2.2.2.2.1∧jf (d.2.2.2.2.2.2.2.2.2.2.2.2.2.2.2.2.2.2.2.2.2.2.1++[b])∧d.2.2.2.2.1.length≤5∧d.2.2.2.2.2.2.2.2.2.2.2.2.2.2.2.2.2.2.2.2.2.2.2.1.length+wl bu d.2.2.2.2.2.2.2.2.2.2.2.2.2.2.2.2.2.2.2.2.2.2.2.1≤1048576∧ma (aJ d)≤5000:=by
 have q:=(mc d h).2.2.1 hd;have hj:oR d.2.2.2.2.2.2.2.2.2.2.2.2.2.2.2.2.2.2.2.2.1 d.2.2.2.2.2.2.2.2.2.2.2.2.2.2.2.2.2.2.2.2.2.1∧(d.1,())∈d.2.2.2.2.2.2.2.2.2.2.2.2.2.2.2.2.2.2.2.2.2.1:=by
  rcases q.nH with g | g
  ·exact absurd g.1 hn
  ·exact ⟨g.1,g.2.1⟩
 have h0:=h;unfold mT at h0;have hm:d.2.2.2.2.1.length≤5∧ma (aJ d)≤5000:=by
  rcases q.tI with g | g
  ·have g1:d.2.2.2.2.1=[]:=g.2.2.1;have g2:d.2.2.2.2.2.1=[]:=g.2.2.2.1;have g3:d.2.2.2.2.2.2.1=[]:=g.2.2.2.2.1;have g4:d.2.2.2.2.2.2.2.1=[]:=g.2.2.2.2.2.1;have g5:d.2.2.2.2.2.2.2.2.2.2.2.2.2.2.2.2.2.1=[]:=g.2.2.2.2.2.2.2.2.2.2.2.2.2.2.2;refine ⟨by rw [g1];exact Nat.zero_le _,?_⟩;show (List.length d.2.2.2.2.1+wl jK d.2.2.2.2.1)+(List.length d.2.2.2.2.2.1+wl dD d.2.2.2.2.2.1)+(List.length d.2.2.2.2.2.2.1+wl jK d.2.2.2.2.2.2.1)+(List.length d.2.2.2.2.2.2.2.1+wl Jo d.2.2.2.2.2.2.2.1)+(List.length d.2.2.2.2.2.2.2.2.2.2.2.2.2.2.2.2.2.1+wl jK d.2.2.2.2.2.2.2.2.2.2.2.2.2.2.2.2.2.1)≤5000;rw [g1,g2,g3,g4,g5]
   decide
  ·exact ⟨g.1.ring.2.1.2,g.1.small⟩
 exact ⟨q,hj.1,hj.2,jf.more (by omega) hb,hm.1,by omega,hm.2⟩
theorem Qf (d:bZ) (b:ea) (h:mT d≤1048576) (hb:b.2.2.2.1.length≤1048576) (hd:mb d=true) (hn:¬d.2.2.2.2.2.2.2.2.2.2.2.2.2.2.2.2.2.2.2.2.1=0):cm (eX d b).1 (eX d b).2.1 (eX d b).2.2.1 (eX d b).2.2.2.1 (eX d b).2.2.2.2.1 (eX d b).2.2.2.2.2.1 (eX d b).2.2.2.2.2.2.1 (eX d b).2.2.2.2.2.2.2.1 (eX d b).2.2.2.2.2.2.2.2.1 (eX d b).2.2.2.2.2.2.2.2.2.1 (eX d b).2.2.2.2.2.2.2.2.2.2.1 (eX d b).2.2.2.2.2.2.2.2.2.2.2.1 (eX d b).2.2.2.2.2.2.2.2.2.2.2.2.1 (eX d b).2.2.2.2.2.2.2.2.2.2.2.2.2.1 (eX d b).2.2.2.2.2.2.2.2.2.2.2.2.2.2.1 (eX d b).2.2.2.2.2.2.2.2.2.2.2.2.2.2.2.1 (eX d b).2.2.2.2.2.2.2.2.2.2.2.2.2.2.2.2.1 (eX d b).2.2.2.2.2.2.2.2.2.2.2.2.2.2.2.2.2.1 (eX d b).2.2.2.2.2.2.2.2.2.2.2.2.2.2.2.2.2.2.1 (eX d b).2.2.2.2.2.2.2.2.2.2.2.2.2.2.2.2.2.2.2.1 (eX d b).2.2.2.2.2.2.2.2.2.2.2.2.2.2.2.2.2.2.2.2.1 (eX d b).2.2.2.2.2.2.2.2.2.2.2.2.2.2.2.2.2.2.2.2.2.1 (eX d b).2.2.2.2.2.2.2.2.2.2.2.2.2.2.2.2.2.2.2.2.2.2.1 (eX d b).2.2.2.2.2.2.2.2.2.2.2.2.2.2.2.2.2.2.2.2.2.2.2.1=some (eX d b)∧mT (eX d b)≤2200000+(b.2.2.2.1.length+wl dD b.2.2.2.1):=by
 obtain ⟨q,hr,hm,hB,h4,hg,hw⟩:=wO d b h hb hd hn;have h0:=h;unfold mT at h0;unfold eX
 cases lQ d.2.2.2.2.2.2.2.2.2.2.2.2.2.2.2.2.2.2.2.2.1 d.2.2.2.2.2.2.2.2.2.2.2.2.2.2.2.2.2.2.2.2.2.1 (d.2.2.2.2.2.2.2.2.2.2.2.2.2.2.2.2.2.2.2.2.2.2.1++[b])
 ·have e1:aJ (eo d (d.2.2.2.2.2.2.2.2.2.2.2.2.2.2.2.2.2.2.2.2.2.2.1++[b]))=aJ d:=rfl;refine ⟨Ob (eo d (d.2.2.2.2.2.2.2.2.2.2.2.2.2.2.2.2.2.2.2.2.2.2.1++[b])) (by rw [e1];omega) (by show d.2.2.2.2.2.2.2.2.2.2.2.2.2.2.2.2.2.2.2.2.2.1.length≤_;omega) hB (by show d.2.2.2.2.2.2.2.2.2.2.2.2.2.2.2.2.2.2.2.2.2.2.2.1.length+wl bu d.2.2.2.2.2.2.2.2.2.2.2.2.2.2.2.2.2.2.2.2.2.2.2.1≤_;omega),?_⟩;have e:mT (eo d (d.2.2.2.2.2.2.2.2.2.2.2.2.2.2.2.2.2.2.2.2.2.2.1++[b]))=(List.length d.2.2.2.2.1+wl jK d.2.2.2.2.1)+(List.length d.2.2.2.2.2.1+wl dD d.2.2.2.2.2.1)+(List.length d.2.2.2.2.2.2.1+wl jK d.2.2.2.2.2.2.1)+(List.length d.2.2.2.2.2.2.2.1+wl Jo d.2.2.2.2.2.2.2.1)+(List.length d.2.2.2.2.2.2.2.2.2.2.2.2.2.2.2.2.2.1+wl jK d.2.2.2.2.2.2.2.2.2.2.2.2.2.2.2.2.2.1)+(List.length d.2.2.2.2.2.2.2.2.2.2.2.2.2.2.2.2.2.2.2.2.2.1+wl jK d.2.2.2.2.2.2.2.2.2.2.2.2.2.2.2.2.2.2.2.2.2.1)+(List.length (d.2.2.2.2.2.2.2.2.2.2.2.2.2.2.2.2.2.2.2.2.2.2.1++[b])+wl dX (d.2.2.2.2.2.2.2.2.2.2.2.2.2.2.2.2.2.2.2.2.2.2.1++[b]))+(List.length d.2.2.2.2.2.2.2.2.2.2.2.2.2.2.2.2.2.2.2.2.2.2.2.1+wl bu d.2.2.2.2.2.2.2.2.2.2.2.2.2.2.2.2.2.2.2.2.2.2.2.1):=rfl;have e2:dX b=b.2.2.2.1.length+wl dD b.2.2.2.1:=rfl;show mT (eo d (d.2.2.2.2.2.2.2.2.2.2.2.2.2.2.2.2.2.2.2.2.2.2.1++[b]))≤_;rw [e,Hv,List.length_append,sb,Lx,e2,List.length_singleton];omega
 ·have h21:=hr.2.1.2;obtain ⟨s1,s2⟩:=Mg (eo d (d.2.2.2.2.2.2.2.2.2.2.2.2.2.2.2.2.2.2.2.2.2.2.1++[b])) h21 h4 hB (by show d.2.2.2.2.2.2.1.length≤_;omega) (by show d.2.2.2.2.2.2.2.1.length+wl Jo d.2.2.2.2.2.2.2.1≤_;omega) hg;have w0:∀l:eA,wl jK l=0:=fun l=>mW jK (fun _=>rfl) l
  have hmw:ma (aJ (fl (eo d (d.2.2.2.2.2.2.2.2.2.2.2.2.2.2.2.2.2.2.2.2.2.2.1++[b]))))≤1048576:=by
   have e:ma (aJ (fl (eo d (d.2.2.2.2.2.2.2.2.2.2.2.2.2.2.2.2.2.2.2.2.2.2.1++[b]))))=(List.length d.2.2.2.2.2.2.2.2.2.2.2.2.2.2.2.2.2.2.2.2.2.1+wl jK d.2.2.2.2.2.2.2.2.2.2.2.2.2.2.2.2.2.2.2.2.2.1)+0+(List.length d.2.2.2.2.2.2.1+wl jK d.2.2.2.2.2.2.1)+(List.length d.2.2.2.2.2.2.2.1+wl Jo d.2.2.2.2.2.2.2.1)+0:=rfl;have e3:ma (aJ d)=(List.length d.2.2.2.2.1+wl jK d.2.2.2.2.1)+(List.length d.2.2.2.2.2.1+wl dD d.2.2.2.2.2.1)+(List.length d.2.2.2.2.2.2.1+wl jK d.2.2.2.2.2.2.1)+(List.length d.2.2.2.2.2.2.2.1+wl Jo d.2.2.2.2.2.2.2.1)+(List.length d.2.2.2.2.2.2.2.2.2.2.2.2.2.2.2.2.2.1+wl jK d.2.2.2.2.2.2.2.2.2.2.2.2.2.2.2.2.2.1):=rfl;have e4:=w0 d.2.2.2.2.2.2.2.2.2.2.2.2.2.2.2.2.2.2.2.2.2.1;omega
  have e5:mT (fl (eo d (d.2.2.2.2.2.2.2.2.2.2.2.2.2.2.2.2.2.2.2.2.2.2.1++[b])))=ma (aJ (fl (eo d (d.2.2.2.2.2.2.2.2.2.2.2.2.2.2.2.2.2.2.2.2.2.2.1++[b]))))+0+0+((ID (fl (eo d (d.2.2.2.2.2.2.2.2.2.2.2.2.2.2.2.2.2.2.2.2.2.2.1++[b])))).length+wl bu (ID (fl (eo d (d.2.2.2.2.2.2.2.2.2.2.2.2.2.2.2.2.2.2.2.2.2.2.1++[b]))))):=rfl;refine ⟨Ob _ hmw (Nat.zero_le _) ⟨Nat.zero_le _,fun x hx=>by cases hx⟩ (by show (ID (fl (eo d (d.2.2.2.2.2.2.2.2.2.2.2.2.2.2.2.2.2.2.2.2.2.2.1++[b])))).length+wl bu (ID (fl (eo d (d.2.2.2.2.2.2.2.2.2.2.2.2.2.2.2.2.2.2.2.2.2.2.1++[b]))))≤_;omega),?_⟩;show mT (fl (eo d (d.2.2.2.2.2.2.2.2.2.2.2.2.2.2.2.2.2.2.2.2.2.2.1++[b])))≤_;rw [e5];omega
theorem D9 (d:bZ) (b:ea) (h:mT d≤1048576) (hb:b.2.2.2.1.length≤1048576):j5 d.1 d.2.1 d.2.2.1 d.2.2.2.1 d.2.2.2.2.1 d.2.2.2.2.2.1 d.2.2.2.2.2.2.1 d.2.2.2.2.2.2.2.1 d.2.2.2.2.2.2.2.2.1 d.2.2.2.2.2.2.2.2.2.1 d.2.2.2.2.2.2.2.2.2.2.1 d.2.2.2.2.2.2.2.2.2.2.2.1 d.2.2.2.2.2.2.2.2.2.2.2.2.1 d.2.2.2.2.2.2.2.2.2.2.2.2.2.1 d.2.2.2.2.2.2.2.2.2.2.2.2.2.2.1 d.2.2.2.2.2.2.2.2.2.2.2.2.2.2.2.1 d.2.2.2.2.2.2.2.2.2.2.2.2.2.2.2.2.1 d.2.2.2.2.2.2.2.2.2.2.2.2.2.2.2.2.2.1 d.2.2.2.2.2.2.2.2.2.2.2.2.2.2.2.2.2.2.1 d.2.2.2.2.2.2.2.2.2.2.2.2.2.2.2.2.2.2.2.1 d.2.2.2.2.2.2.2.2.2.2.2.2.2.2.2.2.2.2.2.2.1 d.2.2.2.2.2.2.2.2.2.2.2.2.2.2.2.2.2.2.2.2.2.1 d.2.2.2.2.2.2.2.2.2.2.2.2.2.2.2.2.2.2.2.2.2.2.1 d.2.2.2.2.2.2.2.2.2.2.2.2.2.2.2.2.2.2.2.2.2.2.2.1 b.1 b.2.1 b.2.2.1 b.2.2.2.1=some ((bj d b).1.1,(bj d b).1.2.1,(bj d b).1.2.2.1,(bj d b).1.2.2.2.1,(bj d b).1.2.2.2.2.1,(bj d b).1.2.2.2.2.2.1,(bj d b).1.2.2.2.2.2.2.1,(bj d b).1.2.2.2.2.2.2.2.1,(bj d b).1.2.2.2.2.2.2.2.2.1,(bj d b).1.2.2.2.2.2.2.2.2.2.1,(bj d b).1.2.2.2.2.2.2.2.2.2.2.1,(bj d b).1.2.2.2.2.2.2.2.2.2.2.2.1,(bj d b).1.2.2.2.2.2.2.2.2.2.2.2.2.1,(bj d b).1.2.2.2.2.2.2.2.2.2.2.2.2.2.1,(bj d b).1.2.2.2.2.2.2.2.2.2.2.2.2.2.2.1,(bj d b).1.2.2.2.2.2.2.2.2.2.2.2.2.2.2.2.1,(bj d b).1.2.2.2.2.2.2.2.2.2.2.2.2.2.2.2.2.1,(bj d b).1.2.2.2.2.2.2.2.2.2.2.2.2.2.2.2.2.2.1,(bj d b).1.2.2.2.2.2.2.2.2.2.2.2.2.2.2.2.2.2.2.1,(bj d b).1.2.2.2.2.2.2.2.2.2.2.2.2.2.2.2.2.2.2.2.1,(bj d b).1.2.2.2.2.2.2.2.2.2.2.2.2.2.2.2.2.2.2.2.2.1,(bj d b).1.2.2.2.2.2.2.2.2.2.2.2.2.2.2.2.2.2.2.2.2.2.1,(bj d b).1.2.2.2.2.2.2.2.2.2.2.2.2.2.2.2.2.2.2.2.2.2.2.1,(bj d b).1.2.2.2.2.2.2.2.2.2.2.2.2.2.2.2.2.2.2.2.2.2.2.2.1,(bj d b).2,())∧o9 d.1 d.2.1 d.2.2.1 d.2.2.2.1 d.2.2.2.2.1 d.2.2.2.2.2.1 d.2.2.2.2.2.2.1 d.2.2.2.2.2.2.2.1 d.2.2.2.2.2.2.2.2.1 d.2.2.2.2.2.2.2.2.2.1 d.2.2.2.2.2.2.2.2.2.2.1 d.2.2.2.2.2.2.2.2.2.2.2.1 d.2.2.2.2.2.2.2.2.2.2.2.2.1 d.2.2.2.2.2.2.2.2.2.2.2.2.2.1 d.2.2.2.2.2.2.2.2.2.2.2.2.2.2.1 d.2.2.2.2.2.2.2.2.2.2.2.2.2.2.2.1 d.2.2.2.2.2.2.2.2.2.2.2.2.2.2.2.2.1 d.2.2.2.2.2.2.2.2.2.2.2.2.2.2.2.2.2.1 d.2.2.2.2.2.2.2.2.2.2.2.2.2.2.2.2.2.2.1 d.2.2.2.2.2.2.2.2.2.2.2.2.2.2.2.2.2.2.2.1 d.2.2.2.2.2.2.2.2.2.2.2.2.2.2.2.2.2.2.2.2.1 d.2.2.2.2.2.2.2.2.2.2.2.2.2.2.2.2.2.2.2.2.2.1 d.2.2.2.2.2.2.2.2.2.2.2.2.2.2.2.2.2.2.2.2.2.2.1 d.2.2.2.2.2.2.2.2.2.2.2.2.2.2.2.2.2.2.2.2.2.2.2.1 b.1 b.2.1 b.2.2.1 b.2.2.2.1=some ((bj d b).1.1,(bj d b).1.2.1,(bj d b).1.2.2.1,(bj d b).1.2.2.2.1,(bj d b).1.2.2.2.2.1,(bj d b).1.2.2.2.2.2.1,(bj d b).1.2.2.2.2.2.2.1,(bj d b).1.2.2.2.2.2.2.2.1,(bj d b).1.2.2.2.2.2.2.2.2.1,(bj d b).1.2.2.2.2.2.2.2.2.2.1,(bj d b).1.2.2.2.2.2.2.2.2.2.2.1,(bj d b).1.2.2.2.2.2.2.2.2.2.2.2.1,(bj d b).1.2.2.2.2.2.2.2.2.2.2.2.2.1,(bj d b).1.2.2.2.2.2.2.2.2.2.2.2.2.2.1,(bj d b).1.2.2.2.2.2.2.2.2.2.2.2.2.2.2.1,(bj d b).1.2.2.2.2.2.2.2.2.2.2.2.2.2.2.2.1,(bj d b).1.2.2.2.2.2.2.2.2.2.2.2.2.2.2.2.2.1,(bj d b).1.2.2.2.2.2.2.2.2.2.2.2.2.2.2.2.2.2.1,(bj d b).1.2.2.2.2.2.2.2.2.2.2.2.2.2.2.2.2.2.2.1,(bj d b).1.2.2.2.2.2.2.2.2.2.2.2.2.2.2.2.2.2.2.2.1,(bj d b).1.2.2.2.2.2.2.2.2.2.2.2.2.2.2.2.2.2.2.2.2.1,(bj d b).1.2.2.2.2.2.2.2.2.2.2.2.2.2.2.2.2.2.2.2.2.2.1,(bj d b).1.2.2.2.2.2.2.2.2.2.2.2.2.2.2.2.2.2.2.2.2.2.2.1,(bj d b).1.2.2.2.2.2.2.2.2.2.2.2.2.2.2.2.2.2.2.2.2.2.2.2.1,(bj d b).2,()):=by
 obtain ⟨k1,k2,k3⟩:=mc d h;obtain ⟨p1,p2⟩:=uE d h;obtain ⟨b1,b2⟩:=rR b hb;obtain ⟨n1,_⟩:=uS d.2.2.2.2.2.2.2.2.2.2.2.2.2.2.2.2.2.2.2.2.1 d.2.2.2.2.2.2.2.2.2.2.2.2.2.2.2.2.2.2.2.2.2.1;have h0:=h;unfold mT at h0;have hS:jf d.2.2.2.2.2.2.2.2.2.2.2.2.2.2.2.2.2.2.2.2.2.2.1:=jf.of (by omega);have f1:=rS d.2.2.2.2.2.2.2.2.2.2.2.2.2.2.2.2.2.2.2.2.1 d.2.2.2.2.2.2.2.2.2.2.2.2.2.2.2.2.2.2.2.2.2.1 d.2.2.2.2.2.2.2.2.2.2.2.2.2.2.2.2.2.2.2.2.2.2.1 b.1 hS;have f2:=v7 d.2.2.2.2.2.2.2.2.2.2.2.2.2.2.2.2.2.2.2.2.1 d.2.2.2.2.2.2.2.2.2.2.2.2.2.2.2.2.2.2.2.2.2.1 d.2.2.2.2.2.2.2.2.2.2.2.2.2.2.2.2.2.2.2.2.2.2.1 b.1 hS;have c1:=(kO b hb).1;have c2:=(kO b hb).2;have Qg:Nat.ble ((d.2.2.2.2.2.2.2.2.2.2.2.2.2.2.2.2.2.2.2.2.2.2.1.length+1)*48) lim=true:=aT (by unfold lim;omega);have a12:=D4 d.2.2.2.2.2.2.2.2.2.2.2.2.2.2.2.2.2.2.2.2.1 d.2.2.2.2.2.2.2.2.2.2.2.2.2.2.2.2.2.2.2.2.2.1 (d.2.2.2.2.2.2.2.2.2.2.2.2.2.2.2.2.2.2.2.2.2.2.1++[b]) (by omega) (jf.more (by omega) hb);have a1:kr d.2.2.2.2.2.2.2.2.2.2.2.2.2.2.2.2.2.2.2.2.1 d.2.2.2.2.2.2.2.2.2.2.2.2.2.2.2.2.2.2.2.2.2.1 (d.2.2.2.2.2.2.2.2.2.2.2.2.2.2.2.2.2.2.2.2.2.2.1++[(b.1,b.2.1,b.2.2.1,b.2.2.2.1,())])=some (lQ d.2.2.2.2.2.2.2.2.2.2.2.2.2.2.2.2.2.2.2.2.1 d.2.2.2.2.2.2.2.2.2.2.2.2.2.2.2.2.2.2.2.2.2.1 (d.2.2.2.2.2.2.2.2.2.2.2.2.2.2.2.2.2.2.2.2.2.2.1++[b]),()):=a12.1;have a2:qH d.2.2.2.2.2.2.2.2.2.2.2.2.2.2.2.2.2.2.2.2.1 d.2.2.2.2.2.2.2.2.2.2.2.2.2.2.2.2.2.2.2.2.2.1 (d.2.2.2.2.2.2.2.2.2.2.2.2.2.2.2.2.2.2.2.2.2.2.1++[(b.1,b.2.1,b.2.2.1,b.2.2.2.1,())])=some (lQ d.2.2.2.2.2.2.2.2.2.2.2.2.2.2.2.2.2.2.2.2.1 d.2.2.2.2.2.2.2.2.2.2.2.2.2.2.2.2.2.2.2.2.2.1 (d.2.2.2.2.2.2.2.2.2.2.2.2.2.2.2.2.2.2.2.2.2.2.1++[b]),()):=a12.2;have hnr:mb d=true→(decide (d.2.2.2.2.2.2.2.2.2.2.2.2.2.2.2.2.2.2.2.2.1=0)&&decide (((List.length d.2.2.2.2.2.2.2.2.2.2.2.2.2.2.2.2.2.2.2.2.2.1:Nat):Int)=0))=decide (d.2.2.2.2.2.2.2.2.2.2.2.2.2.2.2.2.2.2.2.2.1=0):=fun hd=>by
  rcases (k3.1 hd).nH with g | g
  ·rw [g.1,g.2.1];rfl
  ·have:=g.1.1.1;rw [Tn (show ¬d.2.2.2.2.2.2.2.2.2.2.2.2.2.2.2.2.2.2.2.2.1=0 by omega)];rfl
 unfold bj xW
 constructor
 ·unfold j5;delta ba az aP bD aA;simp only [p1,k1,b1,n1,f1,c1,Option.bind_some,IE]
  cases hd:mb d
  ·rfl
  cases hB:qL b
  ·rfl
  rw [hnr hd]
  by_cases hn:d.2.2.2.2.2.2.2.2.2.2.2.2.2.2.2.2.2.2.2.2.1=0
  ·rw [Wz hn];rfl
  rw [Tn hn]
  cases decide (b.2.1=d.2.2.2.2.2.2.2.2.2.2.2.2.2.2.2.2.2.2.2.2.1)
  ·rfl
  cases (ir d.2.2.2.2.2.2.2.2.2.2.2.2.2.2.2.2.2.2.2.2.2.2.1 d.2.2.2.2.2.2.2.2.2.2.2.2.2.2.2.2.2.2.2.2.1 b.1).isSome
  case true=>rfl
  obtain ⟨q,hr,hm,hBS,h4,hg,_⟩:=wO d b h hb hd hn;have i1:=(zD (eo d (d.2.2.2.2.2.2.2.2.2.2.2.2.2.2.2.2.2.2.2.2.2.2.1++[b])) hr hm hBS (by show d.2.2.2.2.1.length≤_;omega) (by show d.2.2.2.2.2.2.2.2.2.2.2.2.2.2.2.2.2.2.2.2.2.2.2.1.length≤_;omega)).1;have i1:eF d.1 d.2.1 d.2.2.1 d.2.2.2.1 d.2.2.2.2.1 d.2.2.2.2.2.1 d.2.2.2.2.2.2.1 d.2.2.2.2.2.2.2.1 d.2.2.2.2.2.2.2.2.1 d.2.2.2.2.2.2.2.2.2.1 d.2.2.2.2.2.2.2.2.2.2.1 d.2.2.2.2.2.2.2.2.2.2.2.1 d.2.2.2.2.2.2.2.2.2.2.2.2.1 d.2.2.2.2.2.2.2.2.2.2.2.2.2.1 d.2.2.2.2.2.2.2.2.2.2.2.2.2.2.1 d.2.2.2.2.2.2.2.2.2.2.2.2.2.2.2.1 d.2.2.2.2.2.2.2.2.2.2.2.2.2.2.2.2.1 d.2.2.2.2.2.2.2.2.2.2.2.2.2.2.2.2.2.1 d.2.2.2.2.2.2.2.2.2.2.2.2.2.2.2.2.2.2.1 d.2.2.2.2.2.2.2.2.2.2.2.2.2.2.2.2.2.2.2.1 d.2.2.2.2.2.2.2.2.2.2.2.2.2.2.2.2.2.2.2.2.1 d.2.2.2.2.2.2.2.2.2.2.2.2.2.2.2.2.2.2.2.2.2.1 (d.2.2.2.2.2.2.2.2.2.2.2.2.2.2.2.2.2.2.2.2.2.2.1++[(b.1,b.2.1,b.2.2.1,b.2.2.2.1,())]) d.2.2.2.2.2.2.2.2.2.2.2.2.2.2.2.2.2.2.2.2.2.2.2.1=some (fl (eo d (d.2.2.2.2.2.2.2.2.2.2.2.2.2.2.2.2.2.2.2.2.2.2.1++[b]))):=i1;have ct:=(Qf d b h hb hd hn).1;unfold eX at ct ⊢;simp only [Bool.not_true,Bool.not_false,cond_false,cond_true,Bool.and_self,Qg,a1,Option.bind_some]
  revert ct
  cases lQ d.2.2.2.2.2.2.2.2.2.2.2.2.2.2.2.2.2.2.2.2.1 d.2.2.2.2.2.2.2.2.2.2.2.2.2.2.2.2.2.2.2.2.2.1 (d.2.2.2.2.2.2.2.2.2.2.2.2.2.2.2.2.2.2.2.2.2.2.1++[b])<;>intro ct
  ·have ct:cm d.1 d.2.1 d.2.2.1 d.2.2.2.1 d.2.2.2.2.1 d.2.2.2.2.2.1 d.2.2.2.2.2.2.1 d.2.2.2.2.2.2.2.1 d.2.2.2.2.2.2.2.2.1 d.2.2.2.2.2.2.2.2.2.1 d.2.2.2.2.2.2.2.2.2.2.1 d.2.2.2.2.2.2.2.2.2.2.2.1 d.2.2.2.2.2.2.2.2.2.2.2.2.1 d.2.2.2.2.2.2.2.2.2.2.2.2.2.1 d.2.2.2.2.2.2.2.2.2.2.2.2.2.2.1 d.2.2.2.2.2.2.2.2.2.2.2.2.2.2.2.1 d.2.2.2.2.2.2.2.2.2.2.2.2.2.2.2.2.1 d.2.2.2.2.2.2.2.2.2.2.2.2.2.2.2.2.2.1 d.2.2.2.2.2.2.2.2.2.2.2.2.2.2.2.2.2.2.1 d.2.2.2.2.2.2.2.2.2.2.2.2.2.2.2.2.2.2.2.1 d.2.2.2.2.2.2.2.2.2.2.2.2.2.2.2.2.2.2.2.2.1 d.2.2.2.2.2.2.2.2.2.2.2.2.2.2.2.2.2.2.2.2.2.1 (d.2.2.2.2.2.2.2.2.2.2.2.2.2.2.2.2.2.2.2.2.2.2.1++[(b.1,b.2.1,b.2.2.1,b.2.2.2.1,())]) d.2.2.2.2.2.2.2.2.2.2.2.2.2.2.2.2.2.2.2.2.2.2.2.1=some (eo d (d.2.2.2.2.2.2.2.2.2.2.2.2.2.2.2.2.2.2.2.2.2.2.1++[b])):=ct;simp only [cond_false,ct,Option.bind_some]
  ·simp only [cond_true] at ct;simp only [cond_true,i1,Option.bind_some];rw [ct];rfl
 ·unfold o9;delta ba aP db bD aA bA;simp only [p2,k2,b2,f2,c2,Option.bind_some,IE]
  by_cases hn:d.2.2.2.2.2.2.2.2.2.2.2.2.2.2.2.2.2.2.2.2.1=0
  ·rw [Wz hn]
   cases mb d<;>cases qL b<;>rfl
  rw [Tn hn]
  cases B9:decide (b.2.1=d.2.2.2.2.2.2.2.2.2.2.2.2.2.2.2.2.2.2.2.2.1)
  ·cases mb d<;>cases qL b<;>rfl
  cases hB:qL b
  ·cases mb d<;>rfl
  cases hd:mb d
  ·rfl
  cases (ir d.2.2.2.2.2.2.2.2.2.2.2.2.2.2.2.2.2.2.2.2.2.2.1 d.2.2.2.2.2.2.2.2.2.2.2.2.2.2.2.2.2.2.2.2.1 b.1).isSome
  case true=>rfl
  obtain ⟨q,hr,hm,hBS,h4,hg,_⟩:=wO d b h hb hd hn;have i1:=(zD (eo d (d.2.2.2.2.2.2.2.2.2.2.2.2.2.2.2.2.2.2.2.2.2.2.1++[b])) hr hm hBS (by show d.2.2.2.2.1.length≤_;omega) (by show d.2.2.2.2.2.2.2.2.2.2.2.2.2.2.2.2.2.2.2.2.2.2.2.1.length≤_;omega)).2;have i1:dZ d.1 d.2.1 d.2.2.1 d.2.2.2.1 d.2.2.2.2.1 d.2.2.2.2.2.1 d.2.2.2.2.2.2.1 d.2.2.2.2.2.2.2.1 d.2.2.2.2.2.2.2.2.1 d.2.2.2.2.2.2.2.2.2.1 d.2.2.2.2.2.2.2.2.2.2.1 d.2.2.2.2.2.2.2.2.2.2.2.1 d.2.2.2.2.2.2.2.2.2.2.2.2.1 d.2.2.2.2.2.2.2.2.2.2.2.2.2.1 d.2.2.2.2.2.2.2.2.2.2.2.2.2.2.1 d.2.2.2.2.2.2.2.2.2.2.2.2.2.2.2.1 d.2.2.2.2.2.2.2.2.2.2.2.2.2.2.2.2.1 d.2.2.2.2.2.2.2.2.2.2.2.2.2.2.2.2.2.1 d.2.2.2.2.2.2.2.2.2.2.2.2.2.2.2.2.2.2.1 d.2.2.2.2.2.2.2.2.2.2.2.2.2.2.2.2.2.2.2.1 d.2.2.2.2.2.2.2.2.2.2.2.2.2.2.2.2.2.2.2.2.1 d.2.2.2.2.2.2.2.2.2.2.2.2.2.2.2.2.2.2.2.2.2.1 (d.2.2.2.2.2.2.2.2.2.2.2.2.2.2.2.2.2.2.2.2.2.2.1++[(b.1,b.2.1,b.2.2.1,b.2.2.2.1,())]) d.2.2.2.2.2.2.2.2.2.2.2.2.2.2.2.2.2.2.2.2.2.2.2.1=some (fl (eo d (d.2.2.2.2.2.2.2.2.2.2.2.2.2.2.2.2.2.2.2.2.2.2.1++[b]))):=i1;unfold eX;simp only [Bool.not_true,Bool.not_false,cond_false,cond_true,Bool.and_self,Qg,a2,Option.bind_some]
  cases lQ d.2.2.2.2.2.2.2.2.2.2.2.2.2.2.2.2.2.2.2.2.1 d.2.2.2.2.2.2.2.2.2.2.2.2.2.2.2.2.2.2.2.2.2.1 (d.2.2.2.2.2.2.2.2.2.2.2.2.2.2.2.2.2.2.2.2.2.2.1++[b])
  ·rfl
  ·simp only [cond_true,i1,Option.bind_some]
end Go.TM
set_option linter.unusedSimpArgs false
set_option linter.unusedVariables false
namespace Go.TM
open Go
theorem Ea (d:bZ) (t:mR) (m:iA) (said:aW) (nx:mR) (b:Bool) (r:bZ) (p1:cm d.1 d.2.1 d.2.2.1 d.2.2.2.1 d.2.2.2.2.1 d.2.2.2.2.2.1 d.2.2.2.2.2.2.1 d.2.2.2.2.2.2.2.1 d.2.2.2.2.2.2.2.2.1 d.2.2.2.2.2.2.2.2.2.1 d.2.2.2.2.2.2.2.2.2.2.1 d.2.2.2.2.2.2.2.2.2.2.2.1 d.2.2.2.2.2.2.2.2.2.2.2.2.1 d.2.2.2.2.2.2.2.2.2.2.2.2.2.1 d.2.2.2.2.2.2.2.2.2.2.2.2.2.2.1 d.2.2.2.2.2.2.2.2.2.2.2.2.2.2.2.1 d.2.2.2.2.2.2.2.2.2.2.2.2.2.2.2.2.1 d.2.2.2.2.2.2.2.2.2.2.2.2.2.2.2.2.2.1 d.2.2.2.2.2.2.2.2.2.2.2.2.2.2.2.2.2.2.1 d.2.2.2.2.2.2.2.2.2.2.2.2.2.2.2.2.2.2.2.1 d.2.2.2.2.2.2.2.2.2.2.2.2.2.2.2.2.2.2.2.2.1 d.2.2.2.2.2.2.2.2.2.2.2.2.2.2.2.2.2.2.2.2.2.1 d.2.2.2.2.2.2.2.2.2.2.2.2.2.2.2.2.2.2.2.2.2.2.1 d.2.2.2.2.2.2.2.2.2.2.2.2.2.2.2.2.2.2.2.2.2.2.2.1=some d) (hi:ff d.1 d.2.1 d.2.2.1 d.2.2.2.1 d.2.2.2.2.1 d.2.2.2.2.2.1 d.2.2.2.2.2.2.1 d.2.2.2.2.2.2.2.1 d.2.2.2.2.2.2.2.2.1 d.2.2.2.2.2.2.2.2.2.1 d.2.2.2.2.2.2.2.2.2.2.1 d.2.2.2.2.2.2.2.2.2.2.2.1 d.2.2.2.2.2.2.2.2.2.2.2.2.1 d.2.2.2.2.2.2.2.2.2.2.2.2.2.1 d.2.2.2.2.2.2.2.2.2.2.2.2.2.2.1 d.2.2.2.2.2.2.2.2.2.2.2.2.2.2.2.1 d.2.2.2.2.2.2.2.2.2.2.2.2.2.2.2.2.1 d.2.2.2.2.2.2.2.2.2.2.2.2.2.2.2.2.2.1 d.2.2.2.2.2.2.2.2.2.2.2.2.2.2.2.2.2.2.1 d.2.2.2.2.2.2.2.2.2.2.2.2.2.2.2.2.2.2.2.1 d.2.2.2.2.2.2.2.2.2.2.2.2.2.2.2.2.2.2.2.2.1 d.2.2.2.2.2.2.2.2.2.2.2.2.2.2.2.2.2.2.2.2.2.1 d.2.2.2.2.2.2.2.2.2.2.2.2.2.2.2.2.2.2.2.2.2.2.1 d.2.2.2.2.2.2.2.2.2.2.2.2.2.2.2.2.2.2.2.2.2.2.2.1=some (gd d,())) (c1:lk d.2.2.1 d.2.2.2.1 d.2.2.2.2.1 d.2.2.2.2.2.1 d.2.2.2.2.2.2.1 d.2.2.2.2.2.2.2.1 d.2.2.2.2.2.2.2.2.1 d.2.2.2.2.2.2.2.2.2.1 d.2.2.2.2.2.2.2.2.2.2.1 d.2.2.2.2.2.2.2.2.2.2.2.1 d.2.2.2.2.2.2.2.2.2.2.2.2.1 d.2.2.2.2.2.2.2.2.2.2.2.2.2.1 d.2.2.2.2.2.2.2.2.2.2.2.2.2.2.1 d.2.2.2.2.2.2.2.2.2.2.2.2.2.2.2.1 d.2.2.2.2.2.2.2.2.2.2.2.2.2.2.2.2.1 d.2.2.2.2.2.2.2.2.2.2.2.2.2.2.2.2.2.1 t.1 t.2.1 t.2.2.1 t.2.2.2.1 t.2.2.2.2.1 t.2.2.2.2.2.1=some (m.1,m.2.1,m.2.2.1,m.2.2.2.1,m.2.2.2.2.1,m.2.2.2.2.2.1,m.2.2.2.2.2.2.1,m.2.2.2.2.2.2.2.1,m.2.2.2.2.2.2.2.2.1,m.2.2.2.2.2.2.2.2.2.1,m.2.2.2.2.2.2.2.2.2.2.1,m.2.2.2.2.2.2.2.2.2.2.2.1,m.2.2.2.2.2.2.2.2.2.2.2.2.1,m.2.2.2.2.2.2.2.2.2.2.2.2.2.1,m.2.2.2.2.2.2.2.2.2.2.2.2.2.2.1,m.2.2.2.2.2.2.2.2.2.2.2.2.2.2.2.1,said,nx.1,nx.2.1,nx.2.2.1,nx.2.2.2.1,nx.2.2.2.2.1,nx.2.2.2.2.2.1,b,()))
  (e1:b=true→kq d.1 d.2.1 m.1 m.2.1 m.2.2.1 m.2.2.2.1 m.2.2.2.2.1 m.2.2.2.2.2.1 m.2.2.2.2.2.2.1 m.2.2.2.2.2.2.2.1 m.2.2.2.2.2.2.2.2.1 m.2.2.2.2.2.2.2.2.2.1 m.2.2.2.2.2.2.2.2.2.2.1 m.2.2.2.2.2.2.2.2.2.2.2.1 m.2.2.2.2.2.2.2.2.2.2.2.2.1 m.2.2.2.2.2.2.2.2.2.2.2.2.2.1 m.2.2.2.2.2.2.2.2.2.2.2.2.2.2.1 m.2.2.2.2.2.2.2.2.2.2.2.2.2.2.2.1 d.2.2.2.2.2.2.2.2.2.2.2.2.2.2.2.2.2.2.1 d.2.2.2.2.2.2.2.2.2.2.2.2.2.2.2.2.2.2.2.1 d.2.2.2.2.2.2.2.2.2.2.2.2.2.2.2.2.2.2.2.2.1 d.2.2.2.2.2.2.2.2.2.2.2.2.2.2.2.2.2.2.2.2.2.1 d.2.2.2.2.2.2.2.2.2.2.2.2.2.2.2.2.2.2.2.2.2.2.1 d.2.2.2.2.2.2.2.2.2.2.2.2.2.2.2.2.2.2.2.2.2.2.2.1=some r):fI d.1 d.2.1 d.2.2.1 d.2.2.2.1 d.2.2.2.2.1 d.2.2.2.2.2.1 d.2.2.2.2.2.2.1 d.2.2.2.2.2.2.2.1 d.2.2.2.2.2.2.2.2.1 d.2.2.2.2.2.2.2.2.2.1 d.2.2.2.2.2.2.2.2.2.2.1 d.2.2.2.2.2.2.2.2.2.2.2.1 d.2.2.2.2.2.2.2.2.2.2.2.2.1 d.2.2.2.2.2.2.2.2.2.2.2.2.2.1 d.2.2.2.2.2.2.2.2.2.2.2.2.2.2.1 d.2.2.2.2.2.2.2.2.2.2.2.2.2.2.2.1 d.2.2.2.2.2.2.2.2.2.2.2.2.2.2.2.2.1 d.2.2.2.2.2.2.2.2.2.2.2.2.2.2.2.2.2.1 d.2.2.2.2.2.2.2.2.2.2.2.2.2.2.2.2.2.2.1 d.2.2.2.2.2.2.2.2.2.2.2.2.2.2.2.2.2.2.2.1 d.2.2.2.2.2.2.2.2.2.2.2.2.2.2.2.2.2.2.2.2.1 d.2.2.2.2.2.2.2.2.2.2.2.2.2.2.2.2.2.2.2.2.2.1 d.2.2.2.2.2.2.2.2.2.2.2.2.2.2.2.2.2.2.2.2.2.2.1 d.2.2.2.2.2.2.2.2.2.2.2.2.2.2.2.2.2.2.2.2.2.2.2.1 t.1 t.2.1 t.2.2.1 t.2.2.2.1 t.2.2.2.2.1 t.2.2.2.2.2.1=bif gd d&&b then some (r.1,r.2.1,r.2.2.1,r.2.2.2.1,r.2.2.2.2.1,r.2.2.2.2.2.1,r.2.2.2.2.2.2.1,r.2.2.2.2.2.2.2.1,r.2.2.2.2.2.2.2.2.1,r.2.2.2.2.2.2.2.2.2.1,r.2.2.2.2.2.2.2.2.2.2.1,r.2.2.2.2.2.2.2.2.2.2.2.1,r.2.2.2.2.2.2.2.2.2.2.2.2.1,r.2.2.2.2.2.2.2.2.2.2.2.2.2.1,r.2.2.2.2.2.2.2.2.2.2.2.2.2.2.1,r.2.2.2.2.2.2.2.2.2.2.2.2.2.2.2.1,r.2.2.2.2.2.2.2.2.2.2.2.2.2.2.2.2.1,r.2.2.2.2.2.2.2.2.2.2.2.2.2.2.2.2.2.1,r.2.2.2.2.2.2.2.2.2.2.2.2.2.2.2.2.2.2.1,r.2.2.2.2.2.2.2.2.2.2.2.2.2.2.2.2.2.2.2.1,r.2.2.2.2.2.2.2.2.2.2.2.2.2.2.2.2.2.2.2.2.1,r.2.2.2.2.2.2.2.2.2.2.2.2.2.2.2.2.2.2.2.2.2.1,r.2.2.2.2.2.2.2.2.2.2.2.2.2.2.2.2.2.2.2.2.2.2.1,r.2.2.2.2.2.2.2.2.2.2.2.2.2.2.2.2.2.2.2.2.2.2.2.1,said,nx.1,nx.2.1,nx.2.2.1,nx.2.2.2.1,nx.2.2.2.2.1,nx.2.2.2.2.2.1,true,()) else some (d.1,d.2.1,d.2.2.1,d.2.2.2.1,d.2.2.2.2.1,d.2.2.2.2.2.1,d.2.2.2.2.2.2.1,d.2.2.2.2.2.2.2.1,d.2.2.2.2.2.2.2.2.1,d.2.2.2.2.2.2.2.2.2.1,d.2.2.2.2.2.2.2.2.2.2.1,d.2.2.2.2.2.2.2.2.2.2.2.1,d.2.2.2.2.2.2.2.2.2.2.2.2.1,d.2.2.2.2.2.2.2.2.2.2.2.2.2.1,d.2.2.2.2.2.2.2.2.2.2.2.2.2.2.1,d.2.2.2.2.2.2.2.2.2.2.2.2.2.2.2.1,d.2.2.2.2.2.2.2.2.2.2.2.2.2.2.2.2.1,d.2.2.2.2.2.2.2.2.2.2.2.2.2.2.2.2.2.1,d.2.2.2.2.2.2.2.2.2.2.2.2.2.2.2.2.2.2.1,d.2.2.2.2.2.2.2.2.2.2.2.2.2.2.2.2.2.2.2.1,d.2.2.2.2.2.2.2.2.2.2.2.2.2.2.2.2.2.2.2.2.1,d.2.2.2.2.2.2.2.2.2.2.2.2.2.2.2.2.2.2.2.2.2.1,d.2.2.2.2.2.2.2.2.2.2.2.2.2.2.2.2.2.2.2.2.2.2.1,d.2.2.2.2.2.2.2.2.2.2.2.2.2.2.2.2.2.2.2.2.2.2.2.1,[],(0:Int),(0:Int),(0:Int),(0:Int),(0:Int),[],false,()):=by
 unfold fI;delta ba aP bD bA;rw [p1,Option.bind_some,hi,Option.bind_some]
 cases gd d
 ·rfl
 ·cases b
  ·simp only [Bool.not_true,cond_false,c1,Option.bind_some,Bool.not_false,cond_true,Bool.and_false]
  ·simp only [Bool.not_true,cond_false,c1,Option.bind_some,e1 rfl,Bool.and_self,cond_true]
theorem Eb (d:bZ) (t:mR) (m:iA) (said:aW) (k:Int) (nx:mR) (b:Bool) (r:bZ) (p2:eG d.1 d.2.1 d.2.2.1 d.2.2.2.1 d.2.2.2.2.1 d.2.2.2.2.2.1 d.2.2.2.2.2.2.1 d.2.2.2.2.2.2.2.1 d.2.2.2.2.2.2.2.2.1 d.2.2.2.2.2.2.2.2.2.1 d.2.2.2.2.2.2.2.2.2.2.1 d.2.2.2.2.2.2.2.2.2.2.2.1 d.2.2.2.2.2.2.2.2.2.2.2.2.1 d.2.2.2.2.2.2.2.2.2.2.2.2.2.1 d.2.2.2.2.2.2.2.2.2.2.2.2.2.2.1 d.2.2.2.2.2.2.2.2.2.2.2.2.2.2.2.1 d.2.2.2.2.2.2.2.2.2.2.2.2.2.2.2.2.1 d.2.2.2.2.2.2.2.2.2.2.2.2.2.2.2.2.2.1 d.2.2.2.2.2.2.2.2.2.2.2.2.2.2.2.2.2.2.1 d.2.2.2.2.2.2.2.2.2.2.2.2.2.2.2.2.2.2.2.1 d.2.2.2.2.2.2.2.2.2.2.2.2.2.2.2.2.2.2.2.2.1 d.2.2.2.2.2.2.2.2.2.2.2.2.2.2.2.2.2.2.2.2.2.1 d.2.2.2.2.2.2.2.2.2.2.2.2.2.2.2.2.2.2.2.2.2.2.1 d.2.2.2.2.2.2.2.2.2.2.2.2.2.2.2.2.2.2.2.2.2.2.2.1=some d) (k2:dz d.1 d.2.1 d.2.2.1 d.2.2.2.1 d.2.2.2.2.1 d.2.2.2.2.2.1 d.2.2.2.2.2.2.1 d.2.2.2.2.2.2.2.1 d.2.2.2.2.2.2.2.2.1 d.2.2.2.2.2.2.2.2.2.1 d.2.2.2.2.2.2.2.2.2.2.1 d.2.2.2.2.2.2.2.2.2.2.2.1 d.2.2.2.2.2.2.2.2.2.2.2.2.1 d.2.2.2.2.2.2.2.2.2.2.2.2.2.1 d.2.2.2.2.2.2.2.2.2.2.2.2.2.2.1 d.2.2.2.2.2.2.2.2.2.2.2.2.2.2.2.1 d.2.2.2.2.2.2.2.2.2.2.2.2.2.2.2.2.1 d.2.2.2.2.2.2.2.2.2.2.2.2.2.2.2.2.2.1 d.2.2.2.2.2.2.2.2.2.2.2.2.2.2.2.2.2.2.1 d.2.2.2.2.2.2.2.2.2.2.2.2.2.2.2.2.2.2.2.1 d.2.2.2.2.2.2.2.2.2.2.2.2.2.2.2.2.2.2.2.2.1 d.2.2.2.2.2.2.2.2.2.2.2.2.2.2.2.2.2.2.2.2.2.1 d.2.2.2.2.2.2.2.2.2.2.2.2.2.2.2.2.2.2.2.2.2.2.1 d.2.2.2.2.2.2.2.2.2.2.2.2.2.2.2.2.2.2.2.2.2.2.2.1=some (mb d,())) (hq:(!decide (d.2.2.2.1=0)&&decide (d.2.2.2.2.2.2.2.2.2.2.2.2.2.2.2.2.2.2.2.2.1=0)&&mb d)=gd d) (c2:lz d.2.2.1 d.2.2.2.1 d.2.2.2.2.1 d.2.2.2.2.2.1 d.2.2.2.2.2.2.1 d.2.2.2.2.2.2.2.1 d.2.2.2.2.2.2.2.2.1 d.2.2.2.2.2.2.2.2.2.1 d.2.2.2.2.2.2.2.2.2.2.1 d.2.2.2.2.2.2.2.2.2.2.2.1 d.2.2.2.2.2.2.2.2.2.2.2.2.1 d.2.2.2.2.2.2.2.2.2.2.2.2.2.1 d.2.2.2.2.2.2.2.2.2.2.2.2.2.2.1 d.2.2.2.2.2.2.2.2.2.2.2.2.2.2.2.1 d.2.2.2.2.2.2.2.2.2.2.2.2.2.2.2.2.1 d.2.2.2.2.2.2.2.2.2.2.2.2.2.2.2.2.2.1 t.1 t.2.1 t.2.2.1 t.2.2.2.1 t.2.2.2.2.1 t.2.2.2.2.2.1=some (m.1,m.2.1,m.2.2.1,m.2.2.2.1,m.2.2.2.2.1,m.2.2.2.2.2.1,m.2.2.2.2.2.2.1,m.2.2.2.2.2.2.2.1,m.2.2.2.2.2.2.2.2.1,m.2.2.2.2.2.2.2.2.2.1,m.2.2.2.2.2.2.2.2.2.2.1,m.2.2.2.2.2.2.2.2.2.2.2.1,m.2.2.2.2.2.2.2.2.2.2.2.2.1,m.2.2.2.2.2.2.2.2.2.2.2.2.2.1,m.2.2.2.2.2.2.2.2.2.2.2.2.2.2.1,m.2.2.2.2.2.2.2.2.2.2.2.2.2.2.2.1,said,k,nx.1,nx.2.1,nx.2.2.1,nx.2.2.2.1,nx.2.2.2.2.1,nx.2.2.2.2.2.1,b,()))
  (e2:b=true→ga d.1 d.2.1 m.1 m.2.1 m.2.2.1 m.2.2.2.1 m.2.2.2.2.1 m.2.2.2.2.2.1 m.2.2.2.2.2.2.1 m.2.2.2.2.2.2.2.1 m.2.2.2.2.2.2.2.2.1 m.2.2.2.2.2.2.2.2.2.1 m.2.2.2.2.2.2.2.2.2.2.1 m.2.2.2.2.2.2.2.2.2.2.2.1 m.2.2.2.2.2.2.2.2.2.2.2.2.1 m.2.2.2.2.2.2.2.2.2.2.2.2.2.1 m.2.2.2.2.2.2.2.2.2.2.2.2.2.2.1 m.2.2.2.2.2.2.2.2.2.2.2.2.2.2.2.1 d.2.2.2.2.2.2.2.2.2.2.2.2.2.2.2.2.2.2.1 d.2.2.2.2.2.2.2.2.2.2.2.2.2.2.2.2.2.2.2.1 d.2.2.2.2.2.2.2.2.2.2.2.2.2.2.2.2.2.2.2.2.1 d.2.2.2.2.2.2.2.2.2.2.2.2.2.2.2.2.2.2.2.2.2.1 d.2.2.2.2.2.2.2.2.2.2.2.2.2.2.2.2.2.2.2.2.2.2.1 d.2.2.2.2.2.2.2.2.2.2.2.2.2.2.2.2.2.2.2.2.2.2.2.1=some r):iq d.1 d.2.1 d.2.2.1 d.2.2.2.1 d.2.2.2.2.1 d.2.2.2.2.2.1 d.2.2.2.2.2.2.1 d.2.2.2.2.2.2.2.1 d.2.2.2.2.2.2.2.2.1 d.2.2.2.2.2.2.2.2.2.1 d.2.2.2.2.2.2.2.2.2.2.1 d.2.2.2.2.2.2.2.2.2.2.2.1 d.2.2.2.2.2.2.2.2.2.2.2.2.1 d.2.2.2.2.2.2.2.2.2.2.2.2.2.1 d.2.2.2.2.2.2.2.2.2.2.2.2.2.2.1 d.2.2.2.2.2.2.2.2.2.2.2.2.2.2.2.1 d.2.2.2.2.2.2.2.2.2.2.2.2.2.2.2.2.1 d.2.2.2.2.2.2.2.2.2.2.2.2.2.2.2.2.2.1 d.2.2.2.2.2.2.2.2.2.2.2.2.2.2.2.2.2.2.1 d.2.2.2.2.2.2.2.2.2.2.2.2.2.2.2.2.2.2.2.1 d.2.2.2.2.2.2.2.2.2.2.2.2.2.2.2.2.2.2.2.2.1 d.2.2.2.2.2.2.2.2.2.2.2.2.2.2.2.2.2.2.2.2.2.1 d.2.2.2.2.2.2.2.2.2.2.2.2.2.2.2.2.2.2.2.2.2.2.1 d.2.2.2.2.2.2.2.2.2.2.2.2.2.2.2.2.2.2.2.2.2.2.2.1 t.1 t.2.1 t.2.2.1 t.2.2.2.1 t.2.2.2.2.1 t.2.2.2.2.2.1=bif gd d&&b then some (r.1,r.2.1,r.2.2.1,r.2.2.2.1,r.2.2.2.2.1,r.2.2.2.2.2.1,r.2.2.2.2.2.2.1,r.2.2.2.2.2.2.2.1,r.2.2.2.2.2.2.2.2.1,r.2.2.2.2.2.2.2.2.2.1,r.2.2.2.2.2.2.2.2.2.2.1,r.2.2.2.2.2.2.2.2.2.2.2.1,r.2.2.2.2.2.2.2.2.2.2.2.2.1,r.2.2.2.2.2.2.2.2.2.2.2.2.2.1,r.2.2.2.2.2.2.2.2.2.2.2.2.2.2.1,r.2.2.2.2.2.2.2.2.2.2.2.2.2.2.2.1,r.2.2.2.2.2.2.2.2.2.2.2.2.2.2.2.2.1,r.2.2.2.2.2.2.2.2.2.2.2.2.2.2.2.2.2.1,r.2.2.2.2.2.2.2.2.2.2.2.2.2.2.2.2.2.2.1,r.2.2.2.2.2.2.2.2.2.2.2.2.2.2.2.2.2.2.2.1,r.2.2.2.2.2.2.2.2.2.2.2.2.2.2.2.2.2.2.2.2.1,r.2.2.2.2.2.2.2.2.2.2.2.2.2.2.2.2.2.2.2.2.2.1,r.2.2.2.2.2.2.2.2.2.2.2.2.2.2.2.2.2.2.2.2.2.2.1,r.2.2.2.2.2.2.2.2.2.2.2.2.2.2.2.2.2.2.2.2.2.2.2.1,said,nx.1,nx.2.1,nx.2.2.1,nx.2.2.2.1,nx.2.2.2.2.1,nx.2.2.2.2.2.1,true,()) else some (d.1,d.2.1,d.2.2.1,d.2.2.2.1,d.2.2.2.2.1,d.2.2.2.2.2.1,d.2.2.2.2.2.2.1,d.2.2.2.2.2.2.2.1,d.2.2.2.2.2.2.2.2.1,d.2.2.2.2.2.2.2.2.2.1,d.2.2.2.2.2.2.2.2.2.2.1,d.2.2.2.2.2.2.2.2.2.2.2.1,d.2.2.2.2.2.2.2.2.2.2.2.2.1,d.2.2.2.2.2.2.2.2.2.2.2.2.2.1,d.2.2.2.2.2.2.2.2.2.2.2.2.2.2.1,d.2.2.2.2.2.2.2.2.2.2.2.2.2.2.2.1,d.2.2.2.2.2.2.2.2.2.2.2.2.2.2.2.2.1,d.2.2.2.2.2.2.2.2.2.2.2.2.2.2.2.2.2.1,d.2.2.2.2.2.2.2.2.2.2.2.2.2.2.2.2.2.2.1,d.2.2.2.2.2.2.2.2.2.2.2.2.2.2.2.2.2.2.2.1,d.2.2.2.2.2.2.2.2.2.2.2.2.2.2.2.2.2.2.2.2.1,d.2.2.2.2.2.2.2.2.2.2.2.2.2.2.2.2.2.2.2.2.2.1,d.2.2.2.2.2.2.2.2.2.2.2.2.2.2.2.2.2.2.2.2.2.2.1,d.2.2.2.2.2.2.2.2.2.2.2.2.2.2.2.2.2.2.2.2.2.2.2.1,[],(0:Int),(0:Int),(0:Int),(0:Int),(0:Int),[],false,()):=by
 unfold iq jI gz;delta bD ba az aP ev;rw [p2,Option.bind_some,←hq]
 cases decide (d.2.2.2.1=0)
 ·cases decide (d.2.2.2.2.2.2.2.2.2.2.2.2.2.2.2.2.2.2.2.2.1=0)
  ·rfl
  ·simp only [Bool.not_false,cond_true,Option.bind_some,Bool.not_true,cond_false,k2,Bool.true_and]
   cases mb d
   ·rfl
   ·cases b
    ·simp only [Bool.not_true,cond_false,c2,Option.bind_some,Bool.not_false,cond_true,Bool.and_false]
    ·simp only [Bool.not_true,cond_false,c2,Option.bind_some,e2 rfl,Bool.and_self,cond_true]
 ·rfl
end Go.TM
set_option linter.unusedSimpArgs false
set_option linter.unusedVariables false
namespace Go.TM
open Go
structure Mh (e:xQ):Prop where
 ring:e.2.2.1.length≤5
 B8:e.2.2.2.2.2.2.2.1.length≤5
 text:ByteArray.size e.2.2.2.2.2.2.1≤60
structure lD (n:Nat) (d:bZ):Prop where
 q:xR d
 TE:d.2.2.2.2.2.2.2.2.2.2.2.2.2.2.2.2.2.2.2.2.2.2.1.length≤n
 log:d.2.2.2.2.2.2.2.2.2.2.2.2.2.2.2.2.2.2.2.2.2.2.2.1.length≤63*n
 T7:∀e∈d.2.2.2.2.2.2.2.2.2.2.2.2.2.2.2.2.2.2.2.2.2.2.2.1,Mh e
theorem lD.up {n n':Nat} {d:bZ} (h:lD n d) (hn:n≤n'):lD n' d:=⟨h.q,Nat.le_trans h.TE hn,Nat.le_trans h.log (Nat.mul_le_mul_left 63 hn),h.T7⟩
theorem CP {d:bZ} (q:xR d):d.2.2.2.2.1.length≤5∧ma (aJ d)≤5000:=by
 rcases q.tI with g | g
 ·have g1:d.2.2.2.2.1=[]:=g.2.2.1;have g2:d.2.2.2.2.2.1=[]:=g.2.2.2.1;have g3:d.2.2.2.2.2.2.1=[]:=g.2.2.2.2.1;have g4:d.2.2.2.2.2.2.2.1=[]:=g.2.2.2.2.2.1;have g5:d.2.2.2.2.2.2.2.2.2.2.2.2.2.2.2.2.2.1=[]:=g.2.2.2.2.2.2.2.2.2.2.2.2.2.2.2;refine ⟨by rw [g1];exact Nat.zero_le _,?_⟩;show (List.length d.2.2.2.2.1+wl jK d.2.2.2.2.1)+(List.length d.2.2.2.2.2.1+wl dD d.2.2.2.2.2.1)+(List.length d.2.2.2.2.2.2.1+wl jK d.2.2.2.2.2.2.1)+(List.length d.2.2.2.2.2.2.2.1+wl Jo d.2.2.2.2.2.2.2.1)+(List.length d.2.2.2.2.2.2.2.2.2.2.2.2.2.2.2.2.2.1+wl jK d.2.2.2.2.2.2.2.2.2.2.2.2.2.2.2.2.2.1)≤5000;rw [g1,g2,g3,g4,g5]
  decide
 ·exact ⟨g.1.ring.2.1.2,g.1.small⟩
theorem Fm {b:ea} (h:D2 b):b.2.2.2.1.length≤60∧wl dD b.2.2.2.1≤3600:=dv _ h.2.2.2.1
theorem Qh {d:bZ} (q:xR d):d.2.2.2.2.2.2.2.2.2.2.2.2.2.2.2.2.2.2.2.2.2.1.length≤5∧∀b∈d.2.2.2.2.2.2.2.2.2.2.2.2.2.2.2.2.2.2.2.2.2.2.1,D2 b:=by
 rcases q.nH with g | g
 ·exact ⟨by rw [g.2.1];exact Nat.zero_le _,by rw [g.2.2];exact fun b hb=>by cases hb⟩
 ·exact ⟨g.1.2.1.2,fun b hb=>(g.2.2.2 b hb).1⟩
theorem lD.small {n:Nat} {d:bZ} (h:lD n d) (hn:n≤100):mT d≤1048576:=by
 have h1:=(CP h.q).2;obtain ⟨h2,h3⟩:=Qh h.q;have h4:=Ir dX 3660 d.2.2.2.2.2.2.2.2.2.2.2.2.2.2.2.2.2.2.2.2.2.2.1 (fun b hb=>by
  have:=Fm (h3 b hb);have e:dX b=b.2.2.2.1.length+wl dD b.2.2.2.1:=rfl;omega)
 have h5:=Ir bu 70 d.2.2.2.2.2.2.2.2.2.2.2.2.2.2.2.2.2.2.2.2.2.2.2.1 (fun e he=>by
  obtain ⟨e1,e2,e3⟩:=h.T7 e he;have e4:bu e=(e.2.2.1.length+wl jK e.2.2.1)+ByteArray.size e.2.2.2.2.2.2.1+(e.2.2.2.2.2.2.2.1.length+wl jK e.2.2.2.2.2.2.2.1):=rfl;have e5:wl jK e.2.2.1=0:=mW jK (fun _=>rfl) _;have e6:wl jK e.2.2.2.2.2.2.2.1=0:=mW jK (fun _=>rfl) _;omega)
 have h6:wl jK d.2.2.2.2.2.2.2.2.2.2.2.2.2.2.2.2.2.2.2.2.2.1=0:=mW jK (fun _=>rfl) _;have h7:=h.TE;have h8:=h.log;have e:mT d=ma (aJ d)+(List.length d.2.2.2.2.2.2.2.2.2.2.2.2.2.2.2.2.2.2.2.2.2.1+wl jK d.2.2.2.2.2.2.2.2.2.2.2.2.2.2.2.2.2.2.2.2.2.1)+(List.length d.2.2.2.2.2.2.2.2.2.2.2.2.2.2.2.2.2.2.2.2.2.2.1+wl dX d.2.2.2.2.2.2.2.2.2.2.2.2.2.2.2.2.2.2.2.2.2.2.1)+(List.length d.2.2.2.2.2.2.2.2.2.2.2.2.2.2.2.2.2.2.2.2.2.2.2.1+wl bu d.2.2.2.2.2.2.2.2.2.2.2.2.2.2.2.2.2.2.2.2.2.2.2.1):=rfl;omega
theorem Rk {d:bZ} (q:xR d) (h:¬d.2.2.2.2.2.2.2.2.2.2.2.2.2.2.2.2.2.2.2.1=0):qW (aJ d)∧d.2.2.1=d.1∧d.2.1=false:=by
 have hd:d.2.1=false:=by
  cases e:d.2.1
  ·rfl
  ·exact absurd (q.dead e).2.1 h
 rcases q.tI with g | g
 ·have h1:d.2.2.2.1=0:=g.2.1;have h2:=q.old.1;exact absurd (h2.trans h1) h
 ·exact ⟨g.1,g.2,hd⟩
theorem Qi {d:bZ} {m:iA} (h:xR d) (hd:d.2.1=false) (hm:qW m) (h1:m.1=d.1) (h2:m.2.1=d.2.2.2.1):xR (iV d m):=
 {
  id:=h.id
  xS:=h.xS
  dead:=fun e=>by
   have e:d.2.1=true:=e;rw [hd] at e;cases e
  tI:=.inr ⟨hm,h1⟩
  old:=⟨h.old.1.trans h2.symm,h.old.2⟩
  nH:=h.nH }
theorem zE {n:Nat} {d:bZ} {m:iA} (h:lD n d) (hd:d.2.1=false) (hm:qW m) (h1:m.1=d.1) (h2:m.2.1=d.2.2.2.1):lD n (iV d m):=⟨Qi h.q hd hm h1 h2,h.TE,h.log,h.T7⟩
theorem akI {n:Nat} {d:bZ} (h:lD n d) (hn:n≤100) {level:Int} {text:ByteArray} (hl:1≤level∧level≤2) (ht:ByteArray.size text≤60) (hb:(bO d level text).2=true):lD (n+1) (bO d level text).1∧(bO d level text).1.1=d.1:=by
 have hW:=h.small hn;have hq:=h.q;unfold bO at hb ⊢
 cases hc:(mb d&&(!d.2.1&&(!decide (d.2.2.2.2.2.2.2.2.2.2.2.2.2.2.2.2.2.2.2.1=0)&&(eK (aJ d) level text).2)))
 ·rw [hc] at hb;cases hb
 ·simp only [cond_true];simp only [Bool.and_eq_true,Bool.not_eq_true',decide_eq_false_iff_not] at hc;obtain ⟨_,c1,c2,c3⟩:=hc;obtain ⟨m1,m2,_⟩:=Rk hq c2;have YY:WO (aJ d) level text=true:=by
   unfold eK at c3
   cases hm2:WO (aJ d) level text
   ·rw [hm2] at c3;cases c3
   ·rfl
  have hs:(eK (aJ d) level text).1=WN (aJ d) level text:=by unfold eK;rw [YY];rfl
  unfold WO at YY;simp only [Bool.and_eq_true,decide_eq_true_eq] at YY;rw [hs];exact ⟨(zE h c1 (YW m1 hl ht YY.2.2.2) m2 rfl).up (Nat.le_succ n),rfl⟩
theorem Mi {xs:aW} (h:eV xs xs.length) (s:Int):ByteArray.size (zA xs s).2.2.2.1≤60:=by
 unfold zA
 cases e:fk xs s with
 |none=>show (0:Nat)≤60;decide
 |some r=>exact (rT h r (CM e).1).2.2.2
theorem Mj {c:Int} {ms:eA} {l:aW} (hm:ms.length≤5) (hl:∀x∈l,ByteArray.size x.2.2.2.1≤60):∀e∈gi c ms l,Mh e:=fun e he=>by
 obtain ⟨x,hx,rfl⟩:=List.mem_map.1 he;exact ⟨hm,Nat.zero_le _,hl x hx⟩
theorem Oc {m:iA} (hm:qW m):∃k:Nat,k≤60∧cw m=(Fj m (m.2.2.2.2.2.2.2.2.2.1+((k:Nat):Int)),jb m.2.2.2.1 m.2.2.2.2.2.2.2.2.2.1 k)∧qW (Fj m (m.2.2.2.2.2.2.2.2.2.1+((k:Nat):Int))):=by
 obtain ⟨k,n,rfl,_,e,q,g,_⟩:=YX hm;have ha:=(zu m.2.2.2.1 (Nat.le_trans (dv _ hm.items).1 (by decide))).2.2.1;have hi:=(dv _ hm.items).1;have hg:=hm.heard;refine ⟨k,by omega,?_,q⟩;unfold cw;rw [e]
theorem W3 {d:bZ} (q:xR d) (l:aW):xR (sq d l):={ id:=q.id,xS:=q.xS,dead:=q.dead,tI:=q.tI,old:=q.old,nH:=q.nH }
theorem Qj (d:bZ) (l:aW):(sq d l).2.2.2.2.2.2.2.2.2.2.2.2.2.2.2.2.2.2.2.2.2.2.2.1=d.2.2.2.2.2.2.2.2.2.2.2.2.2.2.2.2.2.2.2.2.2.2.2.1++gi d.2.2.2.1 d.2.2.2.2.1 l∧(sq d l).2.2.2.2.2.2.2.2.2.2.2.2.2.2.2.2.2.2.2.2.2.2.1=d.2.2.2.2.2.2.2.2.2.2.2.2.2.2.2.2.2.2.2.2.2.2.1∧(sq d l).1=d.1:=⟨rfl,rfl,rfl⟩
theorem W4 {n:Nat} {d:bZ} (h:lD n d) {l:aW} (hm:(d.2.2.2.2.1).length≤5) (hl:l.length≤60) (ht:∀x∈l,ByteArray.size x.2.2.2.1≤60):lD (n+1) (sq d l)∧(sq d l).1=d.1:=by
 obtain ⟨e1,e2,e3⟩:=Qj d l;refine ⟨⟨W3 h.q l,by rw [e2];exact Nat.le_trans h.TE (Nat.le_succ n),?_,fun x hx => ?_⟩,e3⟩
 ·have:=h.log;rw [e1,List.length_append,n7];omega
 ·rw [e1] at hx;rcases List.mem_append.1 hx with hx | hx
  ·exact h.T7 x hx
  ·exact Mj hm ht x hx
theorem Od {n:Nat} {d:bZ} (h:lD n d) (hm:qW (aJ d)) (h1:d.2.2.1=d.1) (hd:d.2.1=false):lD (n+1) (rV d)∧(rV d).1=d.1:=by
 obtain ⟨k,hk,e,q⟩:=Oc hm;have hw:=zE h hd q h1 rfl;unfold rV;rw [e];refine W4 hw hm.ring.2.1.2 (by rw [zB];exact hk) fun x hx => ?_
 obtain ⟨j,_,rfl⟩:=List.mem_map.1 hx;exact Mi hm.items _
theorem YZ {m:iA} (hm:qW m) (x:dY):qW (qN m x)∧(qN m x).1=m.1∧(qN m x).2.1=m.2.1:=by
 have hi:=(dv _ hm.items).1
 cases hx:zS x
 ·have hc:qN m x=m:=by
   unfold qN Iw;rw [hx]
   cases uC m<;>cases mS m.2.2.2.1<;>rfl
  rw [hc];exact ⟨hm,rfl,rfl⟩
 ·have hq:=(zt x).2.2.1 hx;have hp:=zv hm.items hq;have Xn:=(dv _ hp).1;have ha:dB m.2.2.2.1≤dB (nc m.2.2.2.1 x):=N7 (by omega) (by omega) fun r hr=>⟨r,Fi hr,rfl⟩
  have hc:qN m x=KX m (nc m.2.2.2.1 x):=by
   unfold qN Iw;rw [(tH m (Nat.le_trans hm.small (by decide))).2.2.2 hm,(oS _ (by omega)).2.2.2 hm.items,(zt x).2.2.2 hq];rfl
  rw [hc];exact ⟨{ hm with
   items:=hp
   line:=⟨hm.line.1,by show m.2.2.2.2.2.2.2.2.1≤((dB (nc m.2.2.2.1 x):Nat):Int);have:=hm.line.2;omega⟩
   heard:=⟨hm.heard.1,by show m.2.2.2.2.2.2.2.2.2.1≤((dB (nc m.2.2.2.1 x):Nat):Int);have:=hm.heard.2;omega⟩ },rfl,rfl⟩
theorem uT {d:bZ} (h:mT d≤1048576) (hi:gd d=true):qW (aJ d)∧d.2.2.1=d.1∧d.2.1=false∧¬d.2.2.2.2.2.2.2.2.2.2.2.2.2.2.2.2.2.2.2.1=0:=by
 obtain ⟨q,_,h2,_,h4,_⟩:=N3 d h hi;have mK:¬d.2.2.2.2.2.2.2.2.2.2.2.2.2.2.2.2.2.2.2.1=0:=by omega
 obtain ⟨m1,m2,_⟩:=Rk q mK;exact ⟨m1,m2,h2,mK⟩
theorem IF {n:Nat} {d:bZ} (h:lD n d) (hn:n≤100) (sL:Int) (x:dY):lD (n+1) (lC d sL x)∧(lC d sL x).1=d.1:=by
 unfold lC
 cases hc:(gd d&&decide (d.2.2.2.2.2.2.2.2.2.2.2.2.2.2.2.2.2.2.2.1=sL))
 ·exact ⟨h.up (Nat.le_succ n),rfl⟩
 ·simp only [Bool.and_eq_true] at hc;obtain ⟨m1,m2,m3,_⟩:=uT (h.small hn) hc.1;obtain ⟨c1,c2,c3⟩:=YZ m1 x;exact Od (zE h m3 c1 (c2.trans m2) c3) c1 (c2.trans m2) m3
theorem K0 {n:Nat} {d:bZ} (h:lD n d) (hn:n≤100) (t:mR) (hw:t.2.2.2.2.2.1.length≤1048576):∃(r:bZ) (said:aW) (nx:mR) (b:Bool),fI d.1 d.2.1 d.2.2.1 d.2.2.2.1 d.2.2.2.2.1 d.2.2.2.2.2.1 d.2.2.2.2.2.2.1 d.2.2.2.2.2.2.2.1 d.2.2.2.2.2.2.2.2.1 d.2.2.2.2.2.2.2.2.2.1 d.2.2.2.2.2.2.2.2.2.2.1 d.2.2.2.2.2.2.2.2.2.2.2.1 d.2.2.2.2.2.2.2.2.2.2.2.2.1 d.2.2.2.2.2.2.2.2.2.2.2.2.2.1 d.2.2.2.2.2.2.2.2.2.2.2.2.2.2.1 d.2.2.2.2.2.2.2.2.2.2.2.2.2.2.2.1 d.2.2.2.2.2.2.2.2.2.2.2.2.2.2.2.2.1 d.2.2.2.2.2.2.2.2.2.2.2.2.2.2.2.2.2.1 d.2.2.2.2.2.2.2.2.2.2.2.2.2.2.2.2.2.2.1 d.2.2.2.2.2.2.2.2.2.2.2.2.2.2.2.2.2.2.2.1 d.2.2.2.2.2.2.2.2.2.2.2.2.2.2.2.2.2.2.2.2.1 d.2.2.2.2.2.2.2.2.2.2.2.2.2.2.2.2.2.2.2.2.2.1 d.2.2.2.2.2.2.2.2.2.2.2.2.2.2.2.2.2.2.2.2.2.2.1 d.2.2.2.2.2.2.2.2.2.2.2.2.2.2.2.2.2.2.2.2.2.2.2.1 t.1 t.2.1 t.2.2.1 t.2.2.2.1 t.2.2.2.2.1 t.2.2.2.2.2.1=some (r.1,r.2.1,r.2.2.1,r.2.2.2.1,r.2.2.2.2.1,r.2.2.2.2.2.1,r.2.2.2.2.2.2.1,r.2.2.2.2.2.2.2.1,r.2.2.2.2.2.2.2.2.1,r.2.2.2.2.2.2.2.2.2.1,r.2.2.2.2.2.2.2.2.2.2.1,r.2.2.2.2.2.2.2.2.2.2.2.1,r.2.2.2.2.2.2.2.2.2.2.2.2.1,r.2.2.2.2.2.2.2.2.2.2.2.2.2.1,r.2.2.2.2.2.2.2.2.2.2.2.2.2.2.1,r.2.2.2.2.2.2.2.2.2.2.2.2.2.2.2.1,r.2.2.2.2.2.2.2.2.2.2.2.2.2.2.2.2.1,r.2.2.2.2.2.2.2.2.2.2.2.2.2.2.2.2.2.1,r.2.2.2.2.2.2.2.2.2.2.2.2.2.2.2.2.2.2.1,r.2.2.2.2.2.2.2.2.2.2.2.2.2.2.2.2.2.2.2.1,r.2.2.2.2.2.2.2.2.2.2.2.2.2.2.2.2.2.2.2.2.1,r.2.2.2.2.2.2.2.2.2.2.2.2.2.2.2.2.2.2.2.2.2.1,r.2.2.2.2.2.2.2.2.2.2.2.2.2.2.2.2.2.2.2.2.2.2.1,r.2.2.2.2.2.2.2.2.2.2.2.2.2.2.2.2.2.2.2.2.2.2.2.1,said,nx.1,nx.2.1,nx.2.2.1,nx.2.2.2.1,nx.2.2.2.2.1,nx.2.2.2.2.2.1,b,())∧iq d.1 d.2.1 d.2.2.1 d.2.2.2.1 d.2.2.2.2.1 d.2.2.2.2.2.1 d.2.2.2.2.2.2.1 d.2.2.2.2.2.2.2.1 d.2.2.2.2.2.2.2.2.1 d.2.2.2.2.2.2.2.2.2.1 d.2.2.2.2.2.2.2.2.2.2.1 d.2.2.2.2.2.2.2.2.2.2.2.1 d.2.2.2.2.2.2.2.2.2.2.2.2.1 d.2.2.2.2.2.2.2.2.2.2.2.2.2.1 d.2.2.2.2.2.2.2.2.2.2.2.2.2.2.1 d.2.2.2.2.2.2.2.2.2.2.2.2.2.2.2.1 d.2.2.2.2.2.2.2.2.2.2.2.2.2.2.2.2.1 d.2.2.2.2.2.2.2.2.2.2.2.2.2.2.2.2.2.1 d.2.2.2.2.2.2.2.2.2.2.2.2.2.2.2.2.2.2.1 d.2.2.2.2.2.2.2.2.2.2.2.2.2.2.2.2.2.2.2.1 d.2.2.2.2.2.2.2.2.2.2.2.2.2.2.2.2.2.2.2.2.1 d.2.2.2.2.2.2.2.2.2.2.2.2.2.2.2.2.2.2.2.2.2.1 d.2.2.2.2.2.2.2.2.2.2.2.2.2.2.2.2.2.2.2.2.2.2.1 d.2.2.2.2.2.2.2.2.2.2.2.2.2.2.2.2.2.2.2.2.2.2.2.1 t.1 t.2.1 t.2.2.1 t.2.2.2.1 t.2.2.2.2.1 t.2.2.2.2.2.1=some (r.1,r.2.1,r.2.2.1,r.2.2.2.1,r.2.2.2.2.1,r.2.2.2.2.2.1,r.2.2.2.2.2.2.1,r.2.2.2.2.2.2.2.1,r.2.2.2.2.2.2.2.2.1,r.2.2.2.2.2.2.2.2.2.1,r.2.2.2.2.2.2.2.2.2.2.1,r.2.2.2.2.2.2.2.2.2.2.2.1,r.2.2.2.2.2.2.2.2.2.2.2.2.1,r.2.2.2.2.2.2.2.2.2.2.2.2.2.1,r.2.2.2.2.2.2.2.2.2.2.2.2.2.2.1,r.2.2.2.2.2.2.2.2.2.2.2.2.2.2.2.1,r.2.2.2.2.2.2.2.2.2.2.2.2.2.2.2.2.1,r.2.2.2.2.2.2.2.2.2.2.2.2.2.2.2.2.2.1,r.2.2.2.2.2.2.2.2.2.2.2.2.2.2.2.2.2.2.1,r.2.2.2.2.2.2.2.2.2.2.2.2.2.2.2.2.2.2.2.1,r.2.2.2.2.2.2.2.2.2.2.2.2.2.2.2.2.2.2.2.2.1,r.2.2.2.2.2.2.2.2.2.2.2.2.2.2.2.2.2.2.2.2.2.1,r.2.2.2.2.2.2.2.2.2.2.2.2.2.2.2.2.2.2.2.2.2.2.1,r.2.2.2.2.2.2.2.2.2.2.2.2.2.2.2.2.2.2.2.2.2.2.2.1,said,nx.1,nx.2.1,nx.2.2.1,nx.2.2.2.1,nx.2.2.2.2.1,nx.2.2.2.2.2.1,b,())∧lD (n+1) r∧r.1=d.1∧
  (b=false→r=d∧(gd d=false∨N9 (aJ d) t=false))∧(b=true→gd d=true∧L4 t∧∃(m:iA) (k:Nat),akE (aJ d) t m said k nx∧r=rV (iV d m)):=by
 have hW:=h.small hn;obtain ⟨k1,k2,_⟩:=mc d hW;obtain ⟨p1,p2⟩:=uE d hW;have hwm:ma (aJ d)≤1048576:=Nat.le_trans (WR d) hW
 cases hb:N9 (aJ d) t
 ·obtain ⟨c2,c1⟩:=YV (aJ d) t hwm hw hb;have e1:=Ea d t (aJ d) [] ((0:Int),(0:Int),(0:Int),(0:Int),(0:Int),[],()) false d p1 (xU d hW) c1 (fun e=>by cases e);have e2:=Eb d t ((0:Int),(0:Int),[],[],[],[],(0:Int),(0:Int),(0:Int),(0:Int),(0:Int),(0:Int),(0:Int),(0:Int),(0:Int),[],()) [] (0:Int) ((0:Int),(0:Int),(0:Int),(0:Int),(0:Int),[],()) false d p2 k2 (CO d hW) c2 (fun e=>by cases e);rw [Bool.and_false,cond_false] at e1 e2;exact ⟨d,[],((0:Int),(0:Int),(0:Int),(0:Int),(0:Int),[],()),false,e1,e2,h.up (Nat.le_succ n),rfl,fun _=>⟨rfl,.inr rfl⟩,fun e=>by cases e⟩
 ·have tS:=hb;unfold N9 at tS;simp only [Bool.and_eq_true,decide_eq_true_eq] at tS;obtain ⟨b1,b2,b3,b4,b5⟩:=tS;have hm:=(tH (aJ d) hwm).2.2.1 b1;have ht:=(Fc t hw).2.2.1 b2;obtain ⟨m,said,k,nx,hh,c2,c1⟩:=YS (aJ d) t hm ht b3 b4 b5;have hnW:=hh.nq.small;have hg:d.2.2.2.2.2.2.2.2.2.2.2.2.2.2.2.2.2.2.2.2.2.2.2.1.length≤1048576:=by unfold mT at hW;omega
  obtain ⟨e1,e2⟩:=Ix (iV d m) (show ma m≤1048576 by omega) hg;have s1:=Ea d t m said nx true (rV (iV d m)) p1 (xU d hW) c1 (fun _=>e1);have s2:=Eb d t m said ((k:Nat):Int) nx true (rV (iV d m)) p2 k2 (CO d hW) c2 (fun _=>e2);rw [Bool.and_true] at s1 s2
  cases hi:gd d
  ·rw [hi,cond_false] at s1 s2;exact ⟨d,[],((0:Int),(0:Int),(0:Int),(0:Int),(0:Int),[],()),false,s1,s2,h.up (Nat.le_succ n),rfl,fun _=>⟨rfl,.inl rfl⟩,fun e=>by cases e⟩
  ·rw [hi,cond_true] at s1 s2;obtain ⟨m1,m2,m3,_⟩:=uT hW hi;obtain ⟨g1,g2⟩:=Od (zE h m3 hh.nq (hh.id.1.trans m2) hh.id.2.1) hh.nq (hh.id.1.trans m2) m3;exact ⟨rV (iV d m),said,nx,true,s1,s2,g1,g2,fun e=>(by cases e),fun _=>⟨rfl,ht,m,k,hh,rfl⟩⟩
def gK (d:bZ):bZ:=(d.1,true,0,0,[],[],[],[],0,0,0,0,0,0,0,0,0,[],d.2.2.2.2.2.2.2.2.2.2.2.2.2.2.2.2.2.2.1,0,0,[],[],d.2.2.2.2.2.2.2.2.2.2.2.2.2.2.2.2.2.2.2.2.2.2.2.1,())
theorem W5 {n:Nat} {d:bZ} (h:lD n d):lD n (gK d):=
 ⟨{
  id:=h.q.id
  xS:=h.q.xS
  dead:=fun _=>⟨⟨rfl,rfl,rfl,rfl,rfl,rfl,rfl,rfl,rfl,rfl,rfl,rfl,rfl,rfl,rfl,rfl⟩,rfl,rfl,rfl,rfl⟩
  tI:=.inl ⟨rfl,rfl,rfl,rfl,rfl,rfl,rfl,rfl,rfl,rfl,rfl,rfl,rfl,rfl,rfl,rfl⟩
  old:=⟨rfl,h.q.xS.1⟩
  nH:=.inl ⟨rfl,rfl,rfl⟩ },Nat.zero_le _,h.log,h.T7⟩
theorem W6 {n:Nat} {d:bZ} (h:lD n d) (hb:(ch d).2=true):lD n (ch d).1∧(ch d).1.1=d.1:=by
 unfold ch at hb ⊢
 cases hc:(mb d&&d.2.1)
 ·rw [hc] at hb;cases hb
 ·exact ⟨⟨{ id:=h.q.id,xS:=h.q.xS,dead:=fun e=>(by cases e),tI:=h.q.tI,old:=h.q.old,nH:=h.q.nH },h.TE,h.log,h.T7⟩,rfl⟩
end Go.TM
set_option linter.unusedSimpArgs false
set_option linter.unusedVariables false
namespace Go.TM
open Go
theorem Ec (xs:List ea) (c id:Int) (gv:ea):(ms:eA)→(out:eA)→(ms.foldl (fun out m=>iu xs c id gv out m.1) out).length≤out.length+ms.length
 | [],out=>by simp
 |m::ms,out=>by
  have h1:=D1 xs c id gv out m.1;have h2:=Ec xs c id gv ms (iu xs c id gv out m.1);rw [List.foldl_cons,List.length_cons];omega
theorem Qk (xs:List ea) (c:Int) (ms:eA) (id:Int):(eU xs c ms id).length≤ms.length:=by
 unfold eU
 cases ir xs c id with
 |none=>exact Nat.zero_le _
 |some gv=>
  have:=Ec xs c id gv ms [];simpa using this
theorem Ql (xs:List ea) (c:Int) (ms:eA) (id heard:Int) (h:jf xs):(tP xs c ms id heard).length≤60∧∀x∈tP xs c ms id heard,pH x:=by
 refine ⟨(Fl xs c ms id heard h).1,fun x hx => ?_⟩;have ri:∀x∈tJ xs c ms id,pH x:=fun x hx=>by
  unfold tJ xj at hx;have hx:=(List.mem_filter.1 hx).1;refine rT (nI _ rU fun l hl => ?_) x hx;obtain ⟨d,_,rfl⟩:=List.mem_map.1 hl;exact uD xs c h d
 unfold tP at hx
 split at hx
 ·cases hx
 ·rename_i gv _
  cases hz:decide (gv.2.2.1=0)
  ·rw [hz] at hx;exact ri x (List.mem_filter.1 hx).1
  ·rw [hz] at hx;cases hx
theorem K1 {d:bZ} (q:xR d) (hj:¬d.2.2.2.2.2.2.2.2.2.2.2.2.2.2.2.2.2.2.2.2.1=0):xR (fl d):=by
 obtain ⟨j1,j2,j3,_⟩:=q.nH.resolve_left fun g=>hj g.1
 have hm:qW (aJ (fl d)):={
  ring:=j1
  mem:=j2
  items:=fun k hk=>by cases hk
  texts:=by
   rcases q.tI with g | g
   ·have g1:d.2.2.2.2.2.2.1=[]:=g.2.2.2.2.1;have g2:d.2.2.2.2.2.2.2.1=[]:=g.2.2.2.2.2.1;show (d.2.2.2.2.2.2.2.1).length≤20∧(d.2.2.2.2.2.2.1).length=(d.2.2.2.2.2.2.2.1).length;rw [g1,g2];exact ⟨Nat.zero_le _,rfl⟩
   ·exact g.1.texts
  Xx:=by
   rcases q.tI with g | g
   ·have g1:d.2.2.2.2.2.2.1=[]:=g.2.2.2.2.1;show xP d.2.2.2.2.2.2.1 (d.2.2.2.2.2.2.1).length;rw [g1];exact fun j hj=>by cases hj
   ·exact g.1.Xx
  short:=by
   rcases q.tI with g | g
   ·have g2:d.2.2.2.2.2.2.2.1=[]:=g.2.2.2.2.2.1;show kx d.2.2.2.2.2.2.2.1 (d.2.2.2.2.2.2.2.1).length;rw [g2];exact fun j hj=>by cases hj
   ·exact g.1.short
  round:=⟨Int.le_refl _,show (0:Int)≤1000000000 by decide⟩
  seen:=⟨Int.le_refl _,show (0:Int)≤60 by decide⟩
  line:=⟨Int.le_refl _,Int.natCast_nonneg _⟩
  heard:=⟨Int.le_refl _,Int.natCast_nonneg _⟩
  last:=.inl ⟨rfl,rfl,rfl,rfl,rfl,rfl⟩ }
 exact
 {
  id:=q.id
  xS:=q.xS
  dead:=fun e=>by
   have e:d.2.1=true:=e;exact absurd (q.dead e).2.2.1 hj
  tI:=.inr ⟨hm,rfl⟩
  old:=⟨rfl,j3.2⟩
  nH:=.inl ⟨rfl,rfl,rfl⟩ }
theorem F5 {d:bZ} (q:xR d) (hj:¬d.2.2.2.2.2.2.2.2.2.2.2.2.2.2.2.2.2.2.2.2.1=0) (hB:jf d.2.2.2.2.2.2.2.2.2.2.2.2.2.2.2.2.2.2.2.2.2.2.1) (he:∀e∈d.2.2.2.2.2.2.2.2.2.2.2.2.2.2.2.2.2.2.2.2.2.2.2.1,Mh e):(we d++[(3,d.2.2.2.2.2.2.2.2.2.2.2.2.2.2.2.2.2.2.2.2.1,d.2.2.2.2.2.2.2.2.2.2.2.2.2.2.2.2.2.2.2.2.2.1,0,0,0,ByteArray.empty,d.2.2.2.2.2.2.2.2.2.2.2.2.2.2.2.2.2.2.2.2.2.1,())]:List xQ).length≤(d.2.2.2.2.2.2.2.2.2.2.2.2.2.2.2.2.2.2.2.2.2.2.2.1).length+62∧∀e∈(we d++[(3,d.2.2.2.2.2.2.2.2.2.2.2.2.2.2.2.2.2.2.2.2.1,d.2.2.2.2.2.2.2.2.2.2.2.2.2.2.2.2.2.2.2.2.2.1,0,0,0,ByteArray.empty,d.2.2.2.2.2.2.2.2.2.2.2.2.2.2.2.2.2.2.2.2.2.1,())]:List xQ),Mh e:=by
 obtain ⟨j1,j2,j3,_⟩:=q.nH.resolve_left fun g=>hj g.1
 have h4:=(CP q).1;obtain ⟨r1,r2⟩:=Ql d.2.2.2.2.2.2.2.2.2.2.2.2.2.2.2.2.2.2.2.2.2.2.1 d.2.2.2.2.2.2.2.2.2.2.2.2.2.2.2.2.2.2.2.2.1 d.2.2.2.2.2.2.2.2.2.2.2.2.2.2.2.2.2.2.2.2.2.1 d.1 d.2.2.2.2.2.2.2.2.2.2.2.1 hB;have hw:=Qk d.2.2.2.2.2.2.2.2.2.2.2.2.2.2.2.2.2.2.2.2.2.2.1 d.2.2.2.2.2.2.2.2.2.2.2.2.2.2.2.2.2.2.2.2.1 d.2.2.2.2.2.2.2.2.2.2.2.2.2.2.2.2.2.2.2.2.2.1 d.1;have hp:(zT d).length≤61:=by
  unfold zT;rw [List.length_append,n7,List.length_singleton];omega
 have hpe:∀e∈zT d,Mh e:=fun e h=>by
  unfold zT at h;rcases List.mem_append.1 h with h | h
  ·rw [List.mem_singleton] at h;subst h;exact ⟨h4,Nat.le_trans hw j1.2.1.2,show (0:Nat)≤60 by decide⟩
  ·exact Mj h4 (fun x hx=>(r2 x hx).2.2.2) e h
 have hg:(we d).length≤(d.2.2.2.2.2.2.2.2.2.2.2.2.2.2.2.2.2.2.2.2.2.2.2.1).length+61∧∀e∈we d,Mh e:=by
  unfold we
  cases decide (0<d.2.2.2.2.2.2.2.2.2.2.2.2.2.2.2.2.2.2.2.1)
  ·exact ⟨Nat.le_add_right _ _,he⟩
  ·refine ⟨by show (d.2.2.2.2.2.2.2.2.2.2.2.2.2.2.2.2.2.2.2.2.2.2.2.1++zT d).length≤_;rw [List.length_append];omega,fun e h => ?_⟩;have h:e∈d.2.2.2.2.2.2.2.2.2.2.2.2.2.2.2.2.2.2.2.2.2.2.2.1++zT d:=h;rcases List.mem_append.1 h with h | h
   ·exact he e h
   ·exact hpe e h
 refine ⟨by rw [List.length_append,List.length_singleton];omega,fun e h => ?_⟩;rcases List.mem_append.1 h with h | h
 ·exact hg.2 e h
 ·rw [List.mem_singleton] at h;subst h;exact ⟨j1.2.1.2,j1.2.1.2,show (0:Nat)≤60 by decide⟩
theorem K2 {n:Nat} {d:bZ} (h:lD n d) (hn:n≤100) {b:ea} (hb:b.2.2.2.1.length≤1048576) (ht:(bj d b).2=true):lD (n+1) (bj d b).1∧(bj d b).1.1=d.1∧D2 b∧¬d.2.2.2.2.2.2.2.2.2.2.2.2.2.2.2.2.2.2.2.2.1=0∧b.2.1=d.2.2.2.2.2.2.2.2.2.2.2.2.2.2.2.2.2.2.2.2.1:=by
 have hW:=h.small hn;unfold bj at ht ⊢
 cases hc:xW d b
 ·rw [hc] at ht;cases ht
 ·unfold xW at hc;simp only [Bool.and_eq_true,Bool.not_eq_true',decide_eq_true_eq,decide_eq_false_iff_not] at hc;obtain ⟨c1,c2,c3,c4,_⟩:=hc;have hP:=(Rf b hb).1 c2;obtain ⟨_,_,_,hB,_,_,_⟩:=wO d b hW hb c1 c3;obtain ⟨j1,j2,j3,j4⟩:=h.q.nH.resolve_left fun g=>c3 g.1
  have hq:lD (n+1) (eo d (d.2.2.2.2.2.2.2.2.2.2.2.2.2.2.2.2.2.2.2.2.2.2.1++[b])):=
   ⟨{
    id:=h.q.id
    xS:=h.q.xS
    dead:=fun e=>by
     have e:d.2.1=true:=e;exact absurd (h.q.dead e).2.2.1 c3
    tI:=h.q.tI
    old:=h.q.old
    nH:=.inr ⟨j1,j2,j3,fun x hx=>by
     have hx:x∈d.2.2.2.2.2.2.2.2.2.2.2.2.2.2.2.2.2.2.2.2.2.2.1++[b]:=hx;rcases List.mem_append.1 hx with hx | hx
     ·exact j4 x hx
     ·rw [List.mem_singleton] at hx;subst hx;exact ⟨hP,c4⟩⟩ },
   by show (d.2.2.2.2.2.2.2.2.2.2.2.2.2.2.2.2.2.2.2.2.2.2.1++[b]).length≤_;rw [List.length_append,List.length_singleton];have:=h.TE;omega,
   by show (d.2.2.2.2.2.2.2.2.2.2.2.2.2.2.2.2.2.2.2.2.2.2.2.1).length≤_;have:=h.log;omega,h.T7⟩
  refine ⟨?_,?_,hP,c3,c4⟩
  ·show lD (n+1) (eX d b);unfold eX
   cases lQ d.2.2.2.2.2.2.2.2.2.2.2.2.2.2.2.2.2.2.2.2.1 d.2.2.2.2.2.2.2.2.2.2.2.2.2.2.2.2.2.2.2.2.2.1 (d.2.2.2.2.2.2.2.2.2.2.2.2.2.2.2.2.2.2.2.2.2.2.1++[b])
   ·exact hq
   ·obtain ⟨g1,g2⟩:=F5 (d:=eo d (d.2.2.2.2.2.2.2.2.2.2.2.2.2.2.2.2.2.2.2.2.2.2.1++[b])) hq.q c3 hB h.T7;exact ⟨K1 hq.q c3,Nat.zero_le _,by
     show (we (eo d (d.2.2.2.2.2.2.2.2.2.2.2.2.2.2.2.2.2.2.2.2.2.2.1++[b]))++[_]).length≤_;have:=h.log;have g1:_≤(d.2.2.2.2.2.2.2.2.2.2.2.2.2.2.2.2.2.2.2.2.2.2.2.1).length+62:=g1;omega,g2⟩
  ·show (eX d b).1=d.1;unfold eX
   cases lQ d.2.2.2.2.2.2.2.2.2.2.2.2.2.2.2.2.2.2.2.2.1 d.2.2.2.2.2.2.2.2.2.2.2.2.2.2.2.2.2.2.2.2.2.1 (d.2.2.2.2.2.2.2.2.2.2.2.2.2.2.2.2.2.2.2.2.2.2.1++[b])<;>rfl
def qO (d:bZ) (r:Int):ea:=(d.1,r,d.2.2.2.2.2.2.2.2.2.2.2.2.2.2.2.2.2.2.2.1,d.2.2.2.2.2.1,())
def Ed (d:bZ) (c:Int) (ms:eA):bZ:=((aJ d).1,(aJ d).2.1,(aJ d).2.2.1,(aJ d).2.2.2.1,(aJ d).2.2.2.2.1,(aJ d).2.2.2.2.2.1,(aJ d).2.2.2.2.2.2.1,(aJ d).2.2.2.2.2.2.2.1,(aJ d).2.2.2.2.2.2.2.2.1,(aJ d).2.2.2.2.2.2.2.2.2.1,(aJ d).2.2.2.2.2.2.2.2.2.2.1,(aJ d).2.2.2.2.2.2.2.2.2.2.2.1,(aJ d).2.2.2.2.2.2.2.2.2.2.2.2.1,(aJ d).2.2.2.2.2.2.2.2.2.2.2.2.2.1,(aJ d).2.2.2.2.2.2.2.2.2.2.2.2.2.2.1,(aJ d).2.2.2.2.2.2.2.2.2.2.2.2.2.2.2.1,c,d.2.2.2.2.2.2.2.2.2.2.2.2.2.2.2.2.2.2.2.1,c,ms,[qO d c],d.2.2.2.2.2.2.2.2.2.2.2.2.2.2.2.2.2.2.2.2.2.2.2.1,()) |> fun x=>(d.1,d.2.1,x)
noncomputable def zF (d:bZ) (c:Int) (ms:eA):bZ:=bif lQ c ms [qO d c] then fl (Ed d c ms) else Ed d c ms
noncomputable def Rl (d:bZ) (c:Int) (ms:eA):Bool:=mb d&&(!d.2.1&&(B6 c ms&&(decide ((d.1,())∈ms) && !decide (c≤d.2.2.2.2.2.2.2.2.2.2.2.2.2.2.2.2.2.2.1))))
theorem Qm {n:Nat} {d:bZ} (h:lD n d) {c:Int} {ms:eA} (hr:oR c ms) (hm:(d.1,())∈ms) (hd:d.2.1=false) (hc:d.2.2.2.2.2.2.2.2.2.2.2.2.2.2.2.2.2.2.1<c):lD (n+1) (Ed d c ms)∧D2 (qO d c)∧jf [qO d c]:=by
 have hold:=h.q.old;have akJ:=h.q.arv;have Xy:eV d.2.2.2.2.2.1 (d.2.2.2.2.2.1).length∧(0<d.2.2.2.2.2.2.2.2.2.2.2.2.2.2.2.2.2.2.2.1∨(d.2.2.2.2.2.1).length=0):=by
  rcases h.q.tI with g | g
  ·have g2:d.2.2.2.2.2.1=[]:=g.2.2.2.1;rw [g2];exact ⟨rU,.inr rfl⟩
  ·refine ⟨g.1.items,.inl ?_⟩;have h1:1≤d.2.2.2.1:=g.1.ring.1.1;omega
 have hP:D2 (qO d c):=⟨h.q.id,hr.1,⟨akJ,by show d.2.2.2.2.2.2.2.2.2.2.2.2.2.2.2.2.2.2.2.1≤c-1;omega⟩,Xy.1,Xy.2⟩;have hl:=(dv _ Xy.1).1;have MC:xR (Ed d c ms):={
  id:=h.q.id
  xS:=⟨by show 0≤c;have:=hr.1.1;omega,hr.1.2⟩
  dead:=fun e=>by
   have e:d.2.1=true:=e;rw [hd] at e;cases e
  tI:=h.q.tI
  old:=⟨hold.1,by show d.2.2.2.2.2.2.2.2.2.2.2.2.2.2.2.2.2.2.2.1≤c;omega⟩
  nH:=.inr ⟨hr,hm,⟨by show d.2.2.2.2.2.2.2.2.2.2.2.2.2.2.2.2.2.2.2.1+1≤c;omega,Int.le_refl _⟩,fun x hx=>by
   have hx:x∈[qO d c]:=hx;rw [List.mem_singleton] at hx;subst hx;exact ⟨hP,rfl⟩⟩ }
 refine ⟨⟨MC,by show 1≤n+1;omega,by show (d.2.2.2.2.2.2.2.2.2.2.2.2.2.2.2.2.2.2.2.2.2.2.2.1).length≤_;have:=h.log;omega,h.T7⟩,hP,?_⟩;exact jf.more (xs:=[]) (by decide) (by show (d.2.2.2.2.2.1).length≤_;omega)
theorem Rm {n:Nat} {d:bZ} (h:lD n d) {c:Int} {ms:eA} (hr:oR c ms) (hm:(d.1,())∈ms) (hd:d.2.1=false) (hc:d.2.2.2.2.2.2.2.2.2.2.2.2.2.2.2.2.2.2.1<c):lD (n+1) (zF d c ms)∧(zF d c ms).1=d.1:=by
 obtain ⟨g,_,hB⟩:=Qm h hr hm hd hc;unfold zF
 cases lQ c ms [qO d c]
 ·exact ⟨g,rfl⟩
 ·have mK:¬c=0:=by have:=hr.1.1;omega
  obtain ⟨g1,g2⟩:=F5 (d:=Ed d c ms) g.q mK hB h.T7;refine ⟨⟨K1 g.q mK,Nat.zero_le _,?_,g2⟩,rfl⟩;show (we (Ed d c ms)++[_]).length≤_;have:=h.log;have g1:_≤(d.2.2.2.2.2.2.2.2.2.2.2.2.2.2.2.2.2.2.2.2.2.2.2.1).length+62:=g1;omega
end Go.TM
set_option linter.unusedSimpArgs false
set_option linter.unusedVariables false
namespace Go.TM
open Go
def jN (d:bZ) (ms:eA) (b:ea):List ea:=(ms.filter fun m => !decide (m.1=d.1)).map fun _=>b
theorem CQ (d:bZ) (ms:eA) (b:ea) {k:Nat} (hk:k<ms.length):jN d (ms.take (k+1)) b=jN d (ms.take k) b++(bif !decide (ms[k].1=d.1) then [b] else []):=by
 unfold jN;rw [List.take_succ_eq_append_getElem hk,List.filter_append,List.map_append,List.filter_cons,List.filter_nil]
 cases decide (ms[k].1=d.1)<;>rfl
theorem K3 (d:bZ) (ms:eA) (b:ea):(jN d ms b).length≤ms.length:=by
 unfold jN;rw [List.length_map];exact List.length_filter_le _ _
noncomputable def jJ (d:bZ) (c:Int) (ms:eA):bZ×List ea×Bool:=bif Rl d c ms then (zF d c ms,jN d ms (qO d c),true) else (Gu,[],false)
theorem TF (d z o:bZ) (b:ea) (c:Int) (ms:eA) (hl:ms.length≤1048576) (hb:b.2.2.2.1.length≤1048576) :
  aI ku (d.1,d.2.1,d.2.2.1,d.2.2.2.1,d.2.2.2.2.1,d.2.2.2.2.2.1,d.2.2.2.2.2.2.1,d.2.2.2.2.2.2.2.1,d.2.2.2.2.2.2.2.2.1,d.2.2.2.2.2.2.2.2.2.1,d.2.2.2.2.2.2.2.2.2.2.1,d.2.2.2.2.2.2.2.2.2.2.2.1,d.2.2.2.2.2.2.2.2.2.2.2.2.1,d.2.2.2.2.2.2.2.2.2.2.2.2.2.1,d.2.2.2.2.2.2.2.2.2.2.2.2.2.2.1,d.2.2.2.2.2.2.2.2.2.2.2.2.2.2.2.1,d.2.2.2.2.2.2.2.2.2.2.2.2.2.2.2.2.1,d.2.2.2.2.2.2.2.2.2.2.2.2.2.2.2.2.2.1,d.2.2.2.2.2.2.2.2.2.2.2.2.2.2.2.2.2.2.1,d.2.2.2.2.2.2.2.2.2.2.2.2.2.2.2.2.2.2.2.1,d.2.2.2.2.2.2.2.2.2.2.2.2.2.2.2.2.2.2.2.2.1,d.2.2.2.2.2.2.2.2.2.2.2.2.2.2.2.2.2.2.2.2.2.1,d.2.2.2.2.2.2.2.2.2.2.2.2.2.2.2.2.2.2.2.2.2.2.1,d.2.2.2.2.2.2.2.2.2.2.2.2.2.2.2.2.2.2.2.2.2.2.2.1,c,ms,z.1,z.2.1,z.2.2.1,z.2.2.2.1,z.2.2.2.2.1,z.2.2.2.2.2.1,z.2.2.2.2.2.2.1,z.2.2.2.2.2.2.2.1,z.2.2.2.2.2.2.2.2.1,z.2.2.2.2.2.2.2.2.2.1,z.2.2.2.2.2.2.2.2.2.2.1,z.2.2.2.2.2.2.2.2.2.2.2.1,z.2.2.2.2.2.2.2.2.2.2.2.2.1,z.2.2.2.2.2.2.2.2.2.2.2.2.2.1,z.2.2.2.2.2.2.2.2.2.2.2.2.2.2.1,z.2.2.2.2.2.2.2.2.2.2.2.2.2.2.2.1,z.2.2.2.2.2.2.2.2.2.2.2.2.2.2.2.2.1,z.2.2.2.2.2.2.2.2.2.2.2.2.2.2.2.2.2.1,z.2.2.2.2.2.2.2.2.2.2.2.2.2.2.2.2.2.2.1,z.2.2.2.2.2.2.2.2.2.2.2.2.2.2.2.2.2.2.2.1,z.2.2.2.2.2.2.2.2.2.2.2.2.2.2.2.2.2.2.2.2.1,z.2.2.2.2.2.2.2.2.2.2.2.2.2.2.2.2.2.2.2.2.2.1,z.2.2.2.2.2.2.2.2.2.2.2.2.2.2.2.2.2.2.2.2.2.2.1,z.2.2.2.2.2.2.2.2.2.2.2.2.2.2.2.2.2.2.2.2.2.2.2.1,[],o.1,o.2.1,o.2.2.1,o.2.2.2.1,o.2.2.2.2.1,o.2.2.2.2.2.1,o.2.2.2.2.2.2.1,o.2.2.2.2.2.2.2.1,o.2.2.2.2.2.2.2.2.1,o.2.2.2.2.2.2.2.2.2.1,o.2.2.2.2.2.2.2.2.2.2.1,o.2.2.2.2.2.2.2.2.2.2.2.1,o.2.2.2.2.2.2.2.2.2.2.2.2.1,o.2.2.2.2.2.2.2.2.2.2.2.2.2.1,o.2.2.2.2.2.2.2.2.2.2.2.2.2.2.1,o.2.2.2.2.2.2.2.2.2.2.2.2.2.2.2.1,o.2.2.2.2.2.2.2.2.2.2.2.2.2.2.2.2.1,o.2.2.2.2.2.2.2.2.2.2.2.2.2.2.2.2.2.1,o.2.2.2.2.2.2.2.2.2.2.2.2.2.2.2.2.2.2.1,o.2.2.2.2.2.2.2.2.2.2.2.2.2.2.2.2.2.2.2.1,o.2.2.2.2.2.2.2.2.2.2.2.2.2.2.2.2.2.2.2.2.1,o.2.2.2.2.2.2.2.2.2.2.2.2.2.2.2.2.2.2.2.2.2.1,o.2.2.2.2.2.2.2.2.2.2.2.2.2.2.2.2.2.2.2.2.2.2.1,o.2.2.2.2.2.2.2.2.2.2.2.2.2.2.2.2.2.2.2.2.2.2.2.1,b.1,b.2.1,b.2.2.1,b.2.2.2.1,(0:Int),())=some (.inl (z.1,z.2.1,z.2.2.1,z.2.2.2.1,z.2.2.2.2.1,z.2.2.2.2.2.1,z.2.2.2.2.2.2.1,z.2.2.2.2.2.2.2.1,z.2.2.2.2.2.2.2.2.1,z.2.2.2.2.2.2.2.2.2.1,z.2.2.2.2.2.2.2.2.2.2.1,z.2.2.2.2.2.2.2.2.2.2.2.1,z.2.2.2.2.2.2.2.2.2.2.2.2.1,z.2.2.2.2.2.2.2.2.2.2.2.2.2.1,z.2.2.2.2.2.2.2.2.2.2.2.2.2.2.1,z.2.2.2.2.2.2.2.2.2.2.2.2.2.2.2.1,z.2.2.2.2.2.2.2.2.2.2.2.2.2.2.2.2.1,z.2.2.2.2.2.2.2.2.2.2.2.2.2.2.2.2.2.1,z.2.2.2.2.2.2.2.2.2.2.2.2.2.2.2.2.2.2.1,z.2.2.2.2.2.2.2.2.2.2.2.2.2.2.2.2.2.2.2.1,z.2.2.2.2.2.2.2.2.2.2.2.2.2.2.2.2.2.2.2.2.1,z.2.2.2.2.2.2.2.2.2.2.2.2.2.2.2.2.2.2.2.2.2.1,z.2.2.2.2.2.2.2.2.2.2.2.2.2.2.2.2.2.2.2.2.2.2.1,z.2.2.2.2.2.2.2.2.2.2.2.2.2.2.2.2.2.2.2.2.2.2.2.1,jN d ms b,o.1,o.2.1,o.2.2.1,o.2.2.2.1,o.2.2.2.2.1,o.2.2.2.2.2.1,o.2.2.2.2.2.2.1,o.2.2.2.2.2.2.2.1,o.2.2.2.2.2.2.2.2.1,o.2.2.2.2.2.2.2.2.2.1,o.2.2.2.2.2.2.2.2.2.2.1,o.2.2.2.2.2.2.2.2.2.2.2.1,o.2.2.2.2.2.2.2.2.2.2.2.2.1,o.2.2.2.2.2.2.2.2.2.2.2.2.2.1,o.2.2.2.2.2.2.2.2.2.2.2.2.2.2.1,o.2.2.2.2.2.2.2.2.2.2.2.2.2.2.2.1,o.2.2.2.2.2.2.2.2.2.2.2.2.2.2.2.2.1,o.2.2.2.2.2.2.2.2.2.2.2.2.2.2.2.2.2.1,o.2.2.2.2.2.2.2.2.2.2.2.2.2.2.2.2.2.2.1,o.2.2.2.2.2.2.2.2.2.2.2.2.2.2.2.2.2.2.2.1,o.2.2.2.2.2.2.2.2.2.2.2.2.2.2.2.2.2.2.2.2.1,o.2.2.2.2.2.2.2.2.2.2.2.2.2.2.2.2.2.2.2.2.2.1,o.2.2.2.2.2.2.2.2.2.2.2.2.2.2.2.2.2.2.2.2.2.2.1,o.2.2.2.2.2.2.2.2.2.2.2.2.2.2.2.2.2.2.2.2.2.2.2.1,())):=by
 have l1:=ca (round:=ku) (e:=.inl (z.1,z.2.1,z.2.2.1,z.2.2.2.1,z.2.2.2.2.1,z.2.2.2.2.2.1,z.2.2.2.2.2.2.1,z.2.2.2.2.2.2.2.1,z.2.2.2.2.2.2.2.2.1,z.2.2.2.2.2.2.2.2.2.1,z.2.2.2.2.2.2.2.2.2.2.1,z.2.2.2.2.2.2.2.2.2.2.2.1,z.2.2.2.2.2.2.2.2.2.2.2.2.1,z.2.2.2.2.2.2.2.2.2.2.2.2.2.1,z.2.2.2.2.2.2.2.2.2.2.2.2.2.2.1,z.2.2.2.2.2.2.2.2.2.2.2.2.2.2.2.1,z.2.2.2.2.2.2.2.2.2.2.2.2.2.2.2.2.1,z.2.2.2.2.2.2.2.2.2.2.2.2.2.2.2.2.2.1,z.2.2.2.2.2.2.2.2.2.2.2.2.2.2.2.2.2.2.1,z.2.2.2.2.2.2.2.2.2.2.2.2.2.2.2.2.2.2.2.1,z.2.2.2.2.2.2.2.2.2.2.2.2.2.2.2.2.2.2.2.2.1,z.2.2.2.2.2.2.2.2.2.2.2.2.2.2.2.2.2.2.2.2.2.1,z.2.2.2.2.2.2.2.2.2.2.2.2.2.2.2.2.2.2.2.2.2.2.1,z.2.2.2.2.2.2.2.2.2.2.2.2.2.2.2.2.2.2.2.2.2.2.2.1,jN d ms b,o.1,o.2.1,o.2.2.1,o.2.2.2.1,o.2.2.2.2.1,o.2.2.2.2.2.1,o.2.2.2.2.2.2.1,o.2.2.2.2.2.2.2.1,o.2.2.2.2.2.2.2.2.1,o.2.2.2.2.2.2.2.2.2.1,o.2.2.2.2.2.2.2.2.2.2.1,o.2.2.2.2.2.2.2.2.2.2.2.1,o.2.2.2.2.2.2.2.2.2.2.2.2.1,o.2.2.2.2.2.2.2.2.2.2.2.2.2.1,o.2.2.2.2.2.2.2.2.2.2.2.2.2.2.1,o.2.2.2.2.2.2.2.2.2.2.2.2.2.2.2.1,o.2.2.2.2.2.2.2.2.2.2.2.2.2.2.2.2.1,o.2.2.2.2.2.2.2.2.2.2.2.2.2.2.2.2.2.1,o.2.2.2.2.2.2.2.2.2.2.2.2.2.2.2.2.2.2.1,o.2.2.2.2.2.2.2.2.2.2.2.2.2.2.2.2.2.2.2.1,o.2.2.2.2.2.2.2.2.2.2.2.2.2.2.2.2.2.2.2.2.1,o.2.2.2.2.2.2.2.2.2.2.2.2.2.2.2.2.2.2.2.2.2.1,o.2.2.2.2.2.2.2.2.2.2.2.2.2.2.2.2.2.2.2.2.2.2.1,o.2.2.2.2.2.2.2.2.2.2.2.2.2.2.2.2.2.2.2.2.2.2.2.1,())) ms.length (fun k=>(d.1,d.2.1,d.2.2.1,d.2.2.2.1,d.2.2.2.2.1,d.2.2.2.2.2.1,d.2.2.2.2.2.2.1,d.2.2.2.2.2.2.2.1,d.2.2.2.2.2.2.2.2.1,d.2.2.2.2.2.2.2.2.2.1,d.2.2.2.2.2.2.2.2.2.2.1,d.2.2.2.2.2.2.2.2.2.2.2.1,d.2.2.2.2.2.2.2.2.2.2.2.2.1,d.2.2.2.2.2.2.2.2.2.2.2.2.2.1,d.2.2.2.2.2.2.2.2.2.2.2.2.2.2.1,d.2.2.2.2.2.2.2.2.2.2.2.2.2.2.2.1,d.2.2.2.2.2.2.2.2.2.2.2.2.2.2.2.2.1,d.2.2.2.2.2.2.2.2.2.2.2.2.2.2.2.2.2.1,d.2.2.2.2.2.2.2.2.2.2.2.2.2.2.2.2.2.2.1,d.2.2.2.2.2.2.2.2.2.2.2.2.2.2.2.2.2.2.2.1,d.2.2.2.2.2.2.2.2.2.2.2.2.2.2.2.2.2.2.2.2.1,d.2.2.2.2.2.2.2.2.2.2.2.2.2.2.2.2.2.2.2.2.2.1,d.2.2.2.2.2.2.2.2.2.2.2.2.2.2.2.2.2.2.2.2.2.2.1,d.2.2.2.2.2.2.2.2.2.2.2.2.2.2.2.2.2.2.2.2.2.2.2.1,c,ms,z.1,z.2.1,z.2.2.1,z.2.2.2.1,z.2.2.2.2.1,z.2.2.2.2.2.1,z.2.2.2.2.2.2.1,z.2.2.2.2.2.2.2.1,z.2.2.2.2.2.2.2.2.1,z.2.2.2.2.2.2.2.2.2.1,z.2.2.2.2.2.2.2.2.2.2.1,z.2.2.2.2.2.2.2.2.2.2.2.1,z.2.2.2.2.2.2.2.2.2.2.2.2.1,z.2.2.2.2.2.2.2.2.2.2.2.2.2.1,z.2.2.2.2.2.2.2.2.2.2.2.2.2.2.1,z.2.2.2.2.2.2.2.2.2.2.2.2.2.2.2.1,z.2.2.2.2.2.2.2.2.2.2.2.2.2.2.2.2.1,z.2.2.2.2.2.2.2.2.2.2.2.2.2.2.2.2.2.1,z.2.2.2.2.2.2.2.2.2.2.2.2.2.2.2.2.2.2.1,z.2.2.2.2.2.2.2.2.2.2.2.2.2.2.2.2.2.2.2.1,z.2.2.2.2.2.2.2.2.2.2.2.2.2.2.2.2.2.2.2.2.1,z.2.2.2.2.2.2.2.2.2.2.2.2.2.2.2.2.2.2.2.2.2.1,z.2.2.2.2.2.2.2.2.2.2.2.2.2.2.2.2.2.2.2.2.2.2.1,z.2.2.2.2.2.2.2.2.2.2.2.2.2.2.2.2.2.2.2.2.2.2.2.1,jN d (ms.take k) b,o.1,o.2.1,o.2.2.1,o.2.2.2.1,o.2.2.2.2.1,o.2.2.2.2.2.1,o.2.2.2.2.2.2.1,o.2.2.2.2.2.2.2.1,o.2.2.2.2.2.2.2.2.1,o.2.2.2.2.2.2.2.2.2.1,o.2.2.2.2.2.2.2.2.2.2.1,o.2.2.2.2.2.2.2.2.2.2.2.1,o.2.2.2.2.2.2.2.2.2.2.2.2.1,o.2.2.2.2.2.2.2.2.2.2.2.2.2.1,o.2.2.2.2.2.2.2.2.2.2.2.2.2.2.1,o.2.2.2.2.2.2.2.2.2.2.2.2.2.2.2.1,o.2.2.2.2.2.2.2.2.2.2.2.2.2.2.2.2.1,o.2.2.2.2.2.2.2.2.2.2.2.2.2.2.2.2.2.1,o.2.2.2.2.2.2.2.2.2.2.2.2.2.2.2.2.2.2.1,o.2.2.2.2.2.2.2.2.2.2.2.2.2.2.2.2.2.2.2.1,o.2.2.2.2.2.2.2.2.2.2.2.2.2.2.2.2.2.2.2.2.1,o.2.2.2.2.2.2.2.2.2.2.2.2.2.2.2.2.2.2.2.2.2.1,o.2.2.2.2.2.2.2.2.2.2.2.2.2.2.2.2.2.2.2.2.2.2.1,o.2.2.2.2.2.2.2.2.2.2.2.2.2.2.2.2.2.2.2.2.2.2.2.1,b.1,b.2.1,b.2.2.1,b.2.2.2.1,((k:Nat):Int),())) (by
  simp only [ku,az,yV,aA,aM,cond_false,List.take_length]) (fun k hk=>by
  have ht:=K3 d (ms.take k) b;rw [List.length_take] at ht;simp only [ku,az,yV,aA,aD hk,ax,cond_true,aF,List.getElem?_eq_getElem hk,Option.bind_some,(kO b hb).1,aT (show ((jN d (ms.take k) b).length+1)*48≤lim by unfold lim;omega),aN (show k<4611686018427387904 by omega),CQ d ms b hk]
  cases decide (ms[k].1=d.1)
  ·rfl
  ·simp only [Bool.not_true,cond_false,List.append_nil])
 exact l1
theorem W7 {n:Nat} {d:bZ} (h:lD n d) (hn:n≤99) (c:Int) (ms:eA) (hl:ms.length≤1048576):rF d.1 d.2.1 d.2.2.1 d.2.2.2.1 d.2.2.2.2.1 d.2.2.2.2.2.1 d.2.2.2.2.2.2.1 d.2.2.2.2.2.2.2.1 d.2.2.2.2.2.2.2.2.1 d.2.2.2.2.2.2.2.2.2.1 d.2.2.2.2.2.2.2.2.2.2.1 d.2.2.2.2.2.2.2.2.2.2.2.1 d.2.2.2.2.2.2.2.2.2.2.2.2.1 d.2.2.2.2.2.2.2.2.2.2.2.2.2.1 d.2.2.2.2.2.2.2.2.2.2.2.2.2.2.1 d.2.2.2.2.2.2.2.2.2.2.2.2.2.2.2.1 d.2.2.2.2.2.2.2.2.2.2.2.2.2.2.2.2.1 d.2.2.2.2.2.2.2.2.2.2.2.2.2.2.2.2.2.1 d.2.2.2.2.2.2.2.2.2.2.2.2.2.2.2.2.2.2.1 d.2.2.2.2.2.2.2.2.2.2.2.2.2.2.2.2.2.2.2.1 d.2.2.2.2.2.2.2.2.2.2.2.2.2.2.2.2.2.2.2.2.1 d.2.2.2.2.2.2.2.2.2.2.2.2.2.2.2.2.2.2.2.2.2.1 d.2.2.2.2.2.2.2.2.2.2.2.2.2.2.2.2.2.2.2.2.2.2.1 d.2.2.2.2.2.2.2.2.2.2.2.2.2.2.2.2.2.2.2.2.2.2.2.1 c ms=some ((jJ d c ms).1.1,(jJ d c ms).1.2.1,(jJ d c ms).1.2.2.1,(jJ d c ms).1.2.2.2.1,(jJ d c ms).1.2.2.2.2.1,(jJ d c ms).1.2.2.2.2.2.1,(jJ d c ms).1.2.2.2.2.2.2.1,(jJ d c ms).1.2.2.2.2.2.2.2.1,(jJ d c ms).1.2.2.2.2.2.2.2.2.1,(jJ d c ms).1.2.2.2.2.2.2.2.2.2.1,(jJ d c ms).1.2.2.2.2.2.2.2.2.2.2.1,(jJ d c ms).1.2.2.2.2.2.2.2.2.2.2.2.1,(jJ d c ms).1.2.2.2.2.2.2.2.2.2.2.2.2.1,(jJ d c ms).1.2.2.2.2.2.2.2.2.2.2.2.2.2.1,(jJ d c ms).1.2.2.2.2.2.2.2.2.2.2.2.2.2.2.1,(jJ d c ms).1.2.2.2.2.2.2.2.2.2.2.2.2.2.2.2.1,(jJ d c ms).1.2.2.2.2.2.2.2.2.2.2.2.2.2.2.2.2.1,(jJ d c ms).1.2.2.2.2.2.2.2.2.2.2.2.2.2.2.2.2.2.1,(jJ d c ms).1.2.2.2.2.2.2.2.2.2.2.2.2.2.2.2.2.2.2.1,(jJ d c ms).1.2.2.2.2.2.2.2.2.2.2.2.2.2.2.2.2.2.2.2.1,(jJ d c ms).1.2.2.2.2.2.2.2.2.2.2.2.2.2.2.2.2.2.2.2.2.1,(jJ d c ms).1.2.2.2.2.2.2.2.2.2.2.2.2.2.2.2.2.2.2.2.2.2.1,(jJ d c ms).1.2.2.2.2.2.2.2.2.2.2.2.2.2.2.2.2.2.2.2.2.2.2.1,(jJ d c ms).1.2.2.2.2.2.2.2.2.2.2.2.2.2.2.2.2.2.2.2.2.2.2.2.1,(jJ d c ms).2.1,(jJ d c ms).2.2,()):=by
 have hW:=h.small (by omega);obtain ⟨k1,_,k3⟩:=mc d hW;obtain ⟨r1,_,r3⟩:=uB c ms hl;have i1:=zp ms d.1 hl;have p1:=(uE d hW).1;have cr:=mH c ms hl;unfold rF jJ Rl;delta az db bD;simp only [k1,r1,i1,p1,cr,Option.bind_some]
 cases h1:mb d
 ·rfl
 cases h2:d.2.1
 case true=>rfl
 cases h3:B6 c ms
 ·rfl
 cases h4:decide ((d.1,())∈ms)
 ·rfl
 cases h5:decide (c≤d.2.2.2.2.2.2.2.2.2.2.2.2.2.2.2.2.2.2.1)
 case true=>rfl
 have hr:=r3.1 h3;have hm:=of_decide_eq_true h4;have hc:d.2.2.2.2.2.2.2.2.2.2.2.2.2.2.2.2.2.2.1<c:=by have:=of_decide_eq_false h5;omega
 obtain ⟨g,hP,hB⟩:=Qm h hr hm h2 hc;obtain ⟨gm,_⟩:=Rm h hr hm h2 hc;have pm:=(uE (zF d c ms) (gm.small (by omega))).1;have Xy:(d.2.2.2.2.2.1).length≤60:=(Fm hP).1;have l1:=TF d Gu (Ed d c ms) (qO d c) c ms hl (by show (d.2.2.2.2.2.1).length≤_;omega);have l1:aI ku (d.1,d.2.1,d.2.2.1,d.2.2.2.1,d.2.2.2.2.1,d.2.2.2.2.2.1,d.2.2.2.2.2.2.1,d.2.2.2.2.2.2.2.1,d.2.2.2.2.2.2.2.2.1,d.2.2.2.2.2.2.2.2.2.1,d.2.2.2.2.2.2.2.2.2.2.1,d.2.2.2.2.2.2.2.2.2.2.2.1,d.2.2.2.2.2.2.2.2.2.2.2.2.1,d.2.2.2.2.2.2.2.2.2.2.2.2.2.1,d.2.2.2.2.2.2.2.2.2.2.2.2.2.2.1,d.2.2.2.2.2.2.2.2.2.2.2.2.2.2.2.1,d.2.2.2.2.2.2.2.2.2.2.2.2.2.2.2.2.1,d.2.2.2.2.2.2.2.2.2.2.2.2.2.2.2.2.2.1,d.2.2.2.2.2.2.2.2.2.2.2.2.2.2.2.2.2.2.1,d.2.2.2.2.2.2.2.2.2.2.2.2.2.2.2.2.2.2.2.1,d.2.2.2.2.2.2.2.2.2.2.2.2.2.2.2.2.2.2.2.2.1,d.2.2.2.2.2.2.2.2.2.2.2.2.2.2.2.2.2.2.2.2.2.1,d.2.2.2.2.2.2.2.2.2.2.2.2.2.2.2.2.2.2.2.2.2.2.1,d.2.2.2.2.2.2.2.2.2.2.2.2.2.2.2.2.2.2.2.2.2.2.2.1,c,ms,0,false,0,0,[],[],[],[],0,0,0,0,0,0,0,0,0,[],0,0,0,[],[],[],[],d.1,d.2.1,d.2.2.1,d.2.2.2.1,d.2.2.2.2.1,d.2.2.2.2.2.1,d.2.2.2.2.2.2.1,d.2.2.2.2.2.2.2.1,d.2.2.2.2.2.2.2.2.1,d.2.2.2.2.2.2.2.2.2.1,d.2.2.2.2.2.2.2.2.2.2.1,d.2.2.2.2.2.2.2.2.2.2.2.1,d.2.2.2.2.2.2.2.2.2.2.2.2.1,d.2.2.2.2.2.2.2.2.2.2.2.2.2.1,d.2.2.2.2.2.2.2.2.2.2.2.2.2.2.1,d.2.2.2.2.2.2.2.2.2.2.2.2.2.2.2.1,d.2.2.2.2.2.2.2.2.2.2.2.2.2.2.2.2.1,d.2.2.2.2.2.2.2.2.2.2.2.2.2.2.2.2.2.1,c,d.2.2.2.2.2.2.2.2.2.2.2.2.2.2.2.2.2.2.2.1,c,ms,[(d.1,c,d.2.2.2.2.2.2.2.2.2.2.2.2.2.2.2.2.2.2.2.1,d.2.2.2.2.2.1,())],d.2.2.2.2.2.2.2.2.2.2.2.2.2.2.2.2.2.2.2.2.2.2.2.1,d.1,c,d.2.2.2.2.2.2.2.2.2.2.2.2.2.2.2.2.2.2.2.1,d.2.2.2.2.2.1,(0:Int),())=_:=l1;have ah:=(D4 c ms [qO d c] hl hB).1;have hg:(d.2.2.2.2.2.2.2.2.2.2.2.2.2.2.2.2.2.2.2.2.2.2.2.1).length≤1048576:=by have:=h.log;omega
 have iv:=(zD (Ed d c ms) hr hm hB (by show (d.2.2.2.2.1).length≤_;have:=(CP h.q).1;omega) hg).1;rw [h2] at l1;obtain ⟨o,ho⟩:∃o,o=Ed d c ms:=⟨_,rfl⟩;have ah:kr o.2.2.2.2.2.2.2.2.2.2.2.2.2.2.2.2.2.2.2.2.1 o.2.2.2.2.2.2.2.2.2.2.2.2.2.2.2.2.2.2.2.2.2.1 o.2.2.2.2.2.2.2.2.2.2.2.2.2.2.2.2.2.2.2.2.2.2.1=some (lQ c ms [qO d c],()):=by rw [ho];exact ah
 rw [←ho] at iv l1;unfold zF at pm ⊢;rw [←ho] at pm ⊢;simp only [Bool.not_true,Bool.not_false,Bool.and_self,cond_false,cond_true,List.nil_append,aT (show (0+(d.2.2.2.2.2.1).length)*40≤lim by unfold lim;omega),l1,bW,Option.bind_some,ah]
 cases hh:lQ c ms [qO d c]
 ·rw [hh] at pm;simp only [cond_false] at pm ⊢;rw [pm];rfl
 ·rw [hh] at pm;simp only [cond_true] at pm ⊢;rw [iv];simp only [Option.bind_some];rw [pm];rfl
end Go.TM
set_option linter.unusedSimpArgs false
set_option linter.unusedVariables false
namespace Go.TM
open Go
end Go.TM
set_option linter.unusedSimpArgs false
set_option linter.unusedVariables false
namespace Go.TM
open Go
end Go.TM
set_option linter.unusedSimpArgs false
set_option linter.unusedVariables false
namespace Go.TM
open Go
abbrev Ee:Type:=Int×(List (Int×Unit))×Unit
theorem TG (xs:List Ee) {k:Nat} (hk:k<xs.length) (h:xs.length+wl Bc xs≤1048576):xs[k].2.1.length≤1048576:=by
 have hw:=Hw Bc xs xs[k] (List.getElem_mem hk);have:Bc xs[k]=List.length xs[k].2.1+wl jK xs[k].2.1:=rfl;omega
theorem Oe (c:Int) (xs:List (Int×Unit)) (h:xs.length≤1048576):aK c xs=some (c,xs,())∧cB c xs=some (c,xs,()):=by
 constructor
 ·unfold aK;rw [aT (show (0+xs.length)*8≤lim by unfold lim;omega)];rfl
 ·unfold cB;rw [lA _ h];rfl
theorem Bi (xs:List Ee) (h:xs.length+wl Bc xs≤1048576):kF xs=some (xs,()):=by
 have hl:=ca (round:=jj) (e:=.inl (xs,())) xs.length (fun k=>(xs,xs.take k,((k:Nat):Int),())) (by
  simp only [jj,rp,aM,cond_false,List.take_length]) (fun k hk=>by
  simp only [jj,rp,aD hk,ax,cond_true,aF,List.getElem?_eq_getElem hk,Option.bind_some,(Oe xs[k].1 xs[k].2.1 (TG xs hk h)).1,List.length_take,Nat.min_eq_left (Nat.le_of_lt hk),aT (show (k+1)*32≤lim by unfold lim;omega),aN (show k<4611686018427387904 by omega)];rw [List.take_succ_eq_append_getElem hk])
 have hl:aI jj (xs,[],(0:Int),())=_:=hl;unfold kF;rw [hl];rfl
abbrev akK:Type:=Int×Bool×Int×Int×(List (Int×Unit))×aW×(List (Int×Unit))×(List (ByteArray×Unit))×Int×Int×Int×Int×Int×Int×Int×Int×Int×(List (Int×Unit))×Int×Int×Int×(List (Int×Unit))×(List ea)×(List (Int×Int×(List (Int×Unit))×Int×Int×Int×ByteArray×(List (Int×Unit))×Unit))×Unit
def CR (id:Int):akK:=(id,false,0,0,[],[],[],[],0,0,0,0,0,0,0,0,0,[],0,0,0,[],[],[],())
theorem Of {id:Int} (h:1≤id∧id≤5):pZ id=some (id,false,0,0,[],[],[],[],0,0,0,0,0,0,0,0,0,[],0,0,0,[],[],[],true,()):=by
 unfold pZ;rw [mv,ak h.1,ak h.2];rfl
def n8 (n:Nat):List akK:=(List.range n).map fun (i:Nat)=>CR ((i:Int)+1)
theorem Bj (n:Nat):(n8 n).length=n:=by unfold n8;simp
theorem Mk (n:Nat):n8 (n+1)=n8 n++[CR ((n:Int)+1)]:=by unfold n8;rw [List.range_succ,List.map_append];rfl
theorem TH (xs:List Ee):aI jk ([],[],[],[],xs,[],[],[],(1:Int),())=some (.inl ([],[],[],[],xs,n8 5,[],[],())):=by
 have hl:=ca (round:=jk) (e:=.inl ([],[],[],[],xs,n8 5,[],[],())) 5 (fun k=>([],[],[],[],xs,n8 k,[],[],((k:Nat):Int)+1,())) (by
  simp only [jk,bC,rq,bD];rw [aq (show ¬((5:Nat):Int)+1≤5 by omega)];rfl) (fun k hk=>by
  simp only [jk,bC,rq,bD,ak (show ((k:Nat):Int)+1≤5 by omega),cond_true,Of (show 1≤((k:Nat):Int)+1∧((k:Nat):Int)+1≤5 by omega),Option.bind_some,Bj,aT (show (k+1)*320≤lim by unfold lim;omega),dH (show -9223372036854775808≤((k:Nat):Int)+1+1 by omega) (by omega),Mk];rfl)
 exact hl
end Go.TM
set_option linter.unusedSimpArgs false
set_option linter.unusedVariables false
namespace Go.TM
open Go
def ck (code:List (Int×Unit)) (at_:Int):Prop:=0≤at_∧at_≤((code.length:Nat):Int)∧code.length≤1048576
theorem Gy (y:Int):0≤IntKind.i64.wrap ((BitVec.ofInt IntKind.i64.bits y &&& BitVec.ofInt IntKind.i64.bits (255:Int)).toNat:Int)∧IntKind.i64.wrap ((BitVec.ofInt IntKind.i64.bits y &&& BitVec.ofInt IntKind.i64.bits (255:Int)).toNat:Int)≤255:=by
 have h:(BitVec.ofInt IntKind.i64.bits y &&& BitVec.ofInt IntKind.i64.bits (255:Int)).toNat≤255:=by
  rw [BitVec.toNat_and];exact Nat.le_trans Nat.and_le_right (by decide)
 rw [dH (by omega) (by omega)];omega
def ZX (code:List (Int×Unit)) (o:Option (Int×(List (Int×Unit))×Int×Int×Unit)) (lo hi:Int):Prop:=
 ∃v wo s',o=some (v,code,wo,s',())∧lo≤v∧v<hi∧ck code wo
theorem Ef (code:List (Int×Unit)) (at_ jP:Int) (h:ck code at_):ZX code (kn code at_ jP) 0 256:=by
 obtain ⟨h0,h1,h2⟩:=h;unfold kn
 by_cases dS:at_<((List.length code:Nat):Int)
 ·obtain ⟨k,rfl⟩:=Int.eq_ofNat_of_zero_le h0;have hk:k<code.length:=by omega
  rw [ak dS];simp only [cond_true,ax,aF,List.getElem?_eq_getElem hk,Option.bind_some,aN (show k<4611686018427387904 by omega)];exact ⟨_,_,_,rfl,(Gy _).1,by have:=(Gy (IntKind.i64.wrap ((IntKind.i64.wrap ((BitVec.ofInt IntKind.i64.bits (IntKind.i64.wrap ((BitVec.ofInt IntKind.i64.bits (Int.fdiv (IntKind.i64.wrap ((IntKind.i64.wrap (jP*(6364136223846793005:Int)))+(1442695040888963407:Int))) (2 ^ (min 33 IntKind.i64.bits))) ^^^ BitVec.ofInt IntKind.i64.bits (Int.fdiv (IntKind.i64.wrap ((IntKind.i64.wrap (jP*(6364136223846793005:Int)))+(1442695040888963407:Int))) (2 ^ (min 45 IntKind.i64.bits)))).toNat:Int)) &&& BitVec.ofInt IntKind.i64.bits (255:Int)).toNat:Int))+(IntKind.i64.wrap code[k].1)))).2;exact Int.lt_add_one_of_le this,by omega,by omega,h2⟩
 ·rw [aq dS];exact ⟨_,_,_,rfl,(Gy _).1,Int.lt_add_one_of_le (Gy _).2,h0,h1,h2⟩
theorem CS {v n:Int} (hv:0≤v) (hn:0<n):0≤Int.tmod v n∧Int.tmod v n<n:=by
 obtain ⟨a,rfl⟩:=Int.eq_ofNat_of_zero_le hv;obtain ⟨b,rfl⟩:=Int.eq_ofNat_of_zero_le (Int.le_of_lt hn);have:Int.tmod ((a:Nat):Int) ((b:Nat):Int)=((a % b:Nat):Int):=rfl;rw [this];have:=Nat.mod_lt a (show 0<b by omega);omega
theorem dL (code:List (Int×Unit)) (at_ jP n:Int) (h:ck code at_) (hn:0<n):ZX code (bt code at_ jP n) 0 n:=by
 unfold bt;rw [aq (show ¬n≤0 by omega),aq (show ¬n=0 by omega)]
 by_cases akL:n≤256
 ·obtain ⟨v,a1,s1,e1,v1,v2,d1⟩:=Ef code at_ jP h;rw [ak akL];simp only [cond_false,cond_true,e1,Option.bind_some];exact ⟨_,_,_,rfl,(CS v1 hn).1,(CS v1 hn).2,d1⟩
 ·obtain ⟨v,a1,s1,e1,v1,v2,d1⟩:=Ef code at_ jP h;obtain ⟨w,a2,s2,e2,w1,w2,d2⟩:=Ef code a1 s1 d1;obtain ⟨x,a3,s3,e3,x1,x2,d3⟩:=Ef code a2 s2 d2;obtain ⟨y,a4,s4,e4,y1,y2,d4⟩:=Ef code a3 s3 d3;rw [aq akL];simp only [cond_false,e1,e2,e3,e4,Option.bind_some];have hw:IntKind.i64.wrap ((IntKind.i64.wrap ((IntKind.i64.wrap ((IntKind.i64.wrap (v*(16777216:Int)))+(IntKind.i64.wrap (w*(65536:Int)))))+(IntKind.i64.wrap (x*(256:Int)))))+y)=v*16777216+w*65536+x*256+y:=by
   rw [dH (show -9223372036854775808≤v*(16777216:Int) by omega) (by omega),dH (show -9223372036854775808≤w*(65536:Int) by omega) (by omega),dH (show -9223372036854775808≤x*(256:Int) by omega) (by omega),
    dH (show -9223372036854775808≤v*(16777216:Int)+w*65536 by omega) (by omega),dH (show -9223372036854775808≤v*(16777216:Int)+w*65536+x*256 by omega) (by omega),dH (by omega) (by omega)]
  rw [hw];have hr:=CS (v:=v*16777216+w*65536+x*256+y) (by omega) hn;exact ⟨_,_,_,rfl,hr.1,hr.2,d4⟩
theorem qP (code:List (Int×Unit)) (at_ jP n:Int) (h:ck code at_) (hn:0<n):∃b wo s',eP code at_ jP n=some (b,code,wo,s',())∧ck code wo:=by
 obtain ⟨v,a1,s1,e1,v1,v2,d1⟩:=dL code at_ jP n h hn;unfold eP;simp only [e1,Option.bind_some];exact ⟨_,_,_,rfl,d1⟩
def afF {B:Type} (code:List (Int×Unit)):Sum ((List (Int×Unit))×Int×Unit) B→Prop
 |.inl y=>y.1=code
 |.inr _=>False
theorem afG (code:List (Int×Unit)) (h:code.length≤1048576):∃s',sC code=some (code,(0:Int),s',()):=by
 unfold sC;obtain ⟨e,he,hq⟩:=dA (round:=np) (x:=(code,IntKind.i64.wrap ((27101:Int)+((List.length code:Nat):Int)),((0:Nat):Int),())) code.length (fun k x=>∃s,x=(code,s,((k:Nat):Int),())) (afF code) (by
  rintro x ⟨s,rfl⟩
  exact ⟨.inl (code,s,()),by simp only [np,vi,aM,cond_false],rfl⟩) (by
  rintro k x hk ⟨s,rfl⟩
  simp only [np,vi,aD hk,ax,cond_true,aF,List.getElem?_eq_getElem hk,Option.bind_some,aN (show k<4611686018427387904 by omega)]
  cases decide (((k:Nat):Int)<(4000:Int))
  ·exact .inl ⟨.inl (code,s,()),rfl,rfl⟩
  ·exact .inr ⟨_,rfl,_,rfl⟩) ⟨_,rfl⟩
 rw [show ((0:Nat):Int)=(0:Int) from rfl] at he;rw [he]
 cases e with
 |inr e=>exact hq.elim
 |inl e=>
  have hq:e.1=code:=hq;exact ⟨e.2.1,by rw [←hq];rfl⟩
theorem zG (code:List (Int×Unit)) (at_ jP:Int) (l:List (Int×Unit)) (h:ck code at_) (h0:0<l.length):∃v wo s',cL code at_ jP l=some (v,code,wo,s',())∧(v,())∈l∧ck code wo:=by
 obtain ⟨v,a1,s1,e1,v1,v2,d1⟩:=dL code at_ jP ((l.length:Nat):Int) h (by omega);obtain ⟨k,rfl⟩:=Int.eq_ofNat_of_zero_le v1;have hk:k<l.length:=by omega
 unfold cL;simp only [e1,Option.bind_some,ax,cond_true,aF,List.getElem?_eq_getElem hk];exact ⟨_,_,_,rfl,List.getElem_mem hk,d1⟩
end Go.TM
set_option linter.unusedSimpArgs false
set_option linter.unusedVariables false
namespace Go.TM
open Go
theorem TI (n:Nat) (x:Int) (h:n≤1048576):∃b,uu ((n:Nat):Int) x=some (b,())∧b.size=n:=by
 unfold uu;obtain ⟨e,he,hq⟩:=dA (round:=j9) (x:=(((n:Nat):Int),x,List.replicate n ((0:Int),()),((0:Nat):Int),())) n (fun k y=>∃l:List (Int×Unit),y=(((n:Nat):Int),x,l,((k:Nat):Int),())∧l.length=n) (fun e=>∃l:List (Int×Unit),e=.inl (l,())∧l.length=n) (by
   rintro y ⟨l,rfl,hl⟩
   exact ⟨.inl (l,()),by simp only [j9,aw,tv,aM,cond_false],_,rfl,hl⟩) (by
   rintro k y hk ⟨l,rfl,hl⟩
   have hkl:k<l.length:=by omega
   refine .inr ⟨_,?_,l.set k (x,()),rfl,(by rw [List.length_set];exact hl)⟩;simp only [j9,aw,tv,aD hk,ax,cond_true,aF,fW hkl,List.getElem?_eq_getElem hkl,Option.bind_some,aN (show k<4611686018427387904 by omega)]) ⟨List.replicate n ((0:Int),()),rfl,List.length_replicate⟩
 have he:aI j9 (((n:Nat):Int),x,List.replicate n ((0:Int),()),(0:Int),())=some e:=he;obtain ⟨l,rfl,hl⟩:=hq;simp only [decide_true,cond_true,ax,aF,aT (show n*1≤lim by unfold lim;omega),he,kk];exact ⟨_,rfl,by rw [DX,hl]⟩
end Go.TM
set_option linter.unusedSimpArgs false
set_option linter.unusedVariables false
namespace Go.TM
open Go
theorem Og (code:List (Int×Unit)) (at_ jP:Int) (l:List (ByteArray×Unit)) (h:ck code at_) (h0:0<l.length):∃v wo s',p7 code at_ jP l=some (v,code,wo,s',())∧(v,())∈l∧ck code wo:=by
 obtain ⟨v,a1,s1,e1,v1,v2,d1⟩:=dL code at_ jP ((l.length:Nat):Int) h (by omega);obtain ⟨k,rfl⟩:=Int.eq_ofNat_of_zero_le v1;have hk:k<l.length:=by omega
 unfold p7;simp only [e1,Option.bind_some,ax,cond_true,aF,List.getElem?_eq_getElem hk];exact ⟨_,_,_,rfl,List.getElem_mem hk,d1⟩
theorem W8 (code:List (Int×Unit)) (at_ jP q:Int) (h:ck code at_):∃f l s wo s',pv code at_ jP q=some (q,f,l,s,code,wo,s',())∧ck code wo∧s.size≤3:=by
 obtain ⟨v,a1,s1,e1,_,_,d1⟩:=dL code at_ jP 2 h (by omega);obtain ⟨t,a2,s2,e2,ht,d2⟩:=Og code a1 s1 [((ByteArray.mk #[]),()),((ByteArray.mk #[120]),()),((ByteArray.mk #[121,121]),()),((ByteArray.mk #[122,122,122]),())] d1 (by simp);unfold pv;simp only [e1,e2,Option.bind_some];refine ⟨_,_,_,_,_,rfl,d2,?_⟩;simp only [List.mem_cons,Prod.mk.injEq,and_true,List.not_mem_nil,or_false] at ht;rcases ht with rfl | rfl | rfl | rfl<;>decide
theorem Qn (code:List (Int×Unit)) (at_ jP:Int) (h:ck code at_):∃q f l s wo s',o7 code at_ jP=some (q,f,l,s,code,wo,s',())∧ck code wo∧s.size≤61:=by
 obtain ⟨v,a1,s1,e1,_,_,d1⟩:=dL code at_ jP 12 h (by omega);obtain ⟨f,l,t,a2,s2,e2,d2,ht⟩:=W8 code a1 s1 (IntKind.i64.wrap ((1:Int)+v)) d1;obtain ⟨w,a3,s3,e3,_,_,d3⟩:=dL code a2 s2 16 d2 (by omega);have pick:∀l:List (Int×Unit),0<l.length→∃v wo s',cL code a3 s3 l=some (v,code,wo,s',())∧(v,())∈l∧ck code wo:=fun l hl=>zG code a3 s3 l d3 hl
 unfold o7;delta aA;simp only [e1,e2,e3,Option.bind_some]
 cases decide (w=0)
 case true=>
  obtain ⟨x,a4,s4,e4,_,d4⟩:=pick [((0:Int),()),((-1:Int),()),((60:Int),()),((61:Int),())] (by simp);simp only [e4,Option.bind_some,cond_true];exact ⟨_,_,_,_,_,_,rfl,d4,by omega⟩
 cases decide (w=1)
 case true=>
  obtain ⟨x,a4,s4,e4,_,d4⟩:=pick [((0:Int),()),((5:Int),()),((6:Int),())] (by simp);simp only [e4,Option.bind_some,cond_true];exact ⟨_,_,_,_,_,_,rfl,d4,by omega⟩
 cases decide (w=2)
 case true=>
  obtain ⟨x,a4,s4,e4,_,d4⟩:=pick [((0:Int),()),((3:Int),())] (by simp);simp only [e4,Option.bind_some,cond_true];exact ⟨_,_,_,_,_,_,rfl,d4,by omega⟩
 cases decide (w=3)
 case true=>
  obtain ⟨x,a4,s4,e4,x0,x1,d4⟩:=dL code a3 s3 2 d3 (by omega);obtain ⟨n,rfl⟩:=Int.eq_ofNat_of_zero_le x0;have hw:IntKind.i64.wrap ((60:Int)+((n:Nat):Int))=((60+n:Nat):Int):=by rw [dH]<;>omega
  obtain ⟨b,e5,hb⟩:=TI (60+n) 65 (by omega);simp only [e4,hw,e5,Option.bind_some,cond_true];exact ⟨_,_,_,_,_,_,rfl,d4,by omega⟩
 exact ⟨_,_,_,_,_,_,rfl,d3,by omega⟩
theorem Ml (code:List (Int×Unit)) (at_ jP:Int) (h:ck code at_):∃l wo s',sk code at_ jP=some (l,code,wo,s',())∧List.length l≤9∧ck code wo∧∀x∈l,ByteArray.size x.2.2.2.1≤61:=by
 obtain ⟨e,he,hq⟩:=dA (round:=fZ) (x:=(code,at_,jP,[],((0+1:Nat):Int),())) 9 (fun k x=>∃(a s:Int) (l:aW),x=(code,a,s,l,((k+1:Nat):Int),())∧l.length≤k∧ck code a∧∀x∈l,ByteArray.size x.2.2.2.1≤61)
  (fun e=>∃(a s:Int) (l:aW),e=.inl (code,a,s,l,())∧l.length≤9∧ck code a∧∀x∈l,ByteArray.size x.2.2.2.1≤61) (by
   rintro x ⟨a,s,l,rfl,q1,d,hx⟩
   obtain ⟨v,a1,s1,e1,v0,v1,d1⟩:=dL code a s 10 d (by omega);refine ⟨.inl (code,a1,s1,l,()),?_,_,_,_,rfl,q1,d1,hx⟩;simp only [fZ,aw,lq,aA,e1,Option.bind_some,aq (show ¬((9+1:Nat):Int)≤v by omega),cond_false]) (by
   rintro k x hk ⟨a,s,l,rfl,q1,d,hx⟩
   obtain ⟨v,a1,s1,e1,v0,v1,d1⟩:=dL code a s 10 d (by omega)
   by_cases dS:((k+1:Nat):Int)≤v
   ·obtain ⟨b,a2,s2,e2,d2⟩:=qP code a1 s1 4 d1 (by omega)
    cases b
    ·obtain ⟨f,lv,t,a3,s3,e3,d3,ht⟩:=W8 code a2 s2 ((k+1:Nat):Int) d2;refine .inr ⟨_,?_,a3,s3,l++[(((k+1:Nat):Int),f,lv,t,())],rfl,by simp;omega,d3,fun x h=>by
      rcases List.mem_append.1 h with h | h
      ·exact hx x h
      ·rw [List.mem_singleton] at h;subst h;show t.size≤61;omega⟩
     simp only [fZ,aw,lq,aA,e1,e2,e3,Option.bind_some,ak dS,cond_true,Bool.not_false,aT (show (l.length+1)*40≤lim by unfold lim;omega),aN (show k+1<4611686018427387904 by omega)]
    ·refine .inr ⟨_,?_,a2,s2,l,rfl,by omega,d2,hx⟩;simp only [fZ,aw,lq,aA,e1,e2,Option.bind_some,ak dS,cond_true,cond_false,Bool.not_true,aN (show k+1<4611686018427387904 by omega)]
   ·refine .inl ⟨.inl (code,a1,s1,l,()),?_,_,_,_,rfl,by omega,d1,hx⟩;simp only [fZ,aw,lq,aA,e1,Option.bind_some,aq dS,cond_false]) ⟨at_,jP,[],rfl,by simp,h,fun x h=>by cases h⟩
 have he:aI fZ (code,at_,jP,[],(1:Int),())=some e:=he;obtain ⟨a,s,l,rfl,q1,d,hx⟩:=hq;unfold sk;rw [he];exact ⟨l,a,s,rfl,q1,d,hx⟩
theorem Oh (code:List (Int×Unit)) (at_ jP:Int) (h:ck code at_):∃l wo s',lr code at_ jP=some (l,code,wo,s',())∧List.length l≤10∧ck code wo∧∀x∈l,ByteArray.size x.2.2.2.1≤61:=by
 obtain ⟨l,a1,s1,e1,l1,d1,hx⟩:=Ml code at_ jP h;obtain ⟨v,a2,s2,e2,_,_,d2⟩:=dL code a1 s1 16 d1 (by omega);unfold lr;delta aA;simp only [e1,e2,Option.bind_some]
 cases decide (v=0)
 case true=>
  obtain ⟨q,f,lv,t,a3,s3,e3,d3,ht⟩:=Qn code a2 s2 d2;simp only [e3,Option.bind_some,cond_true,aT (show (l.length+1)*40≤lim by unfold lim;omega)];exact ⟨_,_,_,rfl,by simp;omega,d3,fun x h=>by
   rcases List.mem_append.1 h with h | h
   ·exact hx x h
   ·rw [List.mem_singleton] at h;subst h;exact ht⟩
 cases decide (v=1)
 case true=>
  by_cases h0:(0:Int)<((List.length l:Nat):Int)
  ·obtain ⟨w,a3,s3,e3,w0,w1,d3⟩:=dL code a2 s2 ((List.length l:Nat):Int) d2 h0;obtain ⟨i,rfl⟩:=Int.eq_ofNat_of_zero_le w0;have hi:i<l.length:=by omega
   obtain ⟨x,a4,s4,e4,_,d4⟩:=zG code a3 s3 [((0:Int),()),((-1:Int),()),((3:Int),()),((61:Int),())] d3 (by simp);simp only [ak h0,e3,e4,Option.bind_some,cond_true,ax,aF,fW hi,List.getElem?_eq_getElem hi];exact ⟨_,_,_,rfl,by rw [List.length_set];omega,d4,fun y h=>by
    rcases List.mem_or_eq_of_mem_set h with h | rfl
    ·exact hx y h
    ·exact hx l[i] (List.getElem_mem hi)⟩
  ·rw [aq h0];exact ⟨_,_,_,rfl,by omega,d2,hx⟩
 exact ⟨_,_,_,rfl,by omega,d2,hx⟩
end Go.TM
set_option linter.unusedSimpArgs false
set_option linter.unusedVariables false
namespace Go.TM
open Go
def kP (xs:List (Int×Unit)) (m:Nat):Prop:=xs.length≤m∧(∀j (hj:j<xs.length),1≤xs[j].1∧xs[j].1≤((m:Nat):Int))∧∀i j (hi:i<xs.length) (hj:j<xs.length),i<j→xs[i].1<xs[j].1
theorem kP.snoc {xs:List (Int×Unit)} {m:Nat} (h:kP xs m):kP (xs++[(((m+1:Nat):Int),())]) (m+1):=by
 obtain ⟨h1,h2,h3⟩:=h;refine ⟨by simp;omega,fun j hj => ?_,fun i j hi hj X2 => ?_⟩
 ·by_cases hx:j<xs.length
  ·rw [List.getElem_append_left hx];have:=h2 j hx;omega
  ·have:j=xs.length:=by simp at hj;omega
   subst this;simp;omega
 ·by_cases hx:j<xs.length
  ·rw [List.getElem_append_left hx,List.getElem_append_left (by omega)];exact h3 i j (by omega) hx X2
  ·have hj':j=xs.length:=by simp at hj;omega
   subst hj';have XH:i<xs.length:=X2;rw [List.getElem_append_left XH];have:=h2 i XH;simp;omega
theorem kP.up {xs:List (Int×Unit)} {m:Nat} (h:kP xs m):kP xs (m+1):=
 ⟨by have:=h.1;omega,fun j hj=>by have:=h.2.1 j hj;omega,h.2.2⟩
structure IG (c:Int) (xs:List (Int×Unit)):Prop where
 yJ:1≤c
 oZ:c≤9
 some_:1≤xs.length
 rising:kP xs 5
theorem IG.len {c:Int} {xs:List (Int×Unit)} (h:IG c xs):xs.length≤5:=h.rising.1
def W9 {B:Type} (code:List (Int×Unit)) (c:Int):Sum ((List (Int×Unit))×Int×Int×Int×(List (Int×Unit))×Int×(List (Int×Unit))×Unit) B→Prop
 |.inl y=>y.1=code∧ck code y.2.1∧y.2.2.2.2.2.1=c∧kP y.2.2.2.2.2.2.1 4
 |.inr _=>False
theorem Qo (code:List (Int×Unit)) (at_ jP:Int) (h:ck code at_):∃c xs wo s',qz code at_ jP=some (c,xs,code,wo,s',())∧IG c xs∧c≤3∧kP xs 4∧ck code wo:=by
 obtain ⟨v,a1,s1,e1,v1,v2,d1⟩:=dL code at_ jP 3 h (by omega);unfold qz;rw [e1];simp only [Option.bind_some];have hw:IntKind.i64.wrap ((1:Int)+v)=1+v:=dH (by omega) (by omega);rw [hw];obtain ⟨e,he,hq⟩:=dA (round:=j7) (x:=(code,a1,s1,(0:Int),[],1+v,[],((1:Nat):Int),())) 4 (fun k x=>∃(a s:Int) (m:List (Int×Unit)),x=(code,a,s,(0:Int),[],1+v,m,((k+1:Nat):Int),())∧ck code a∧kP m k)
  (W9 code (1+v)) (by
  rintro x ⟨a,s,m,rfl,da,rm⟩
  exact ⟨.inl (code,a,s,0,[],1+v,m,()),by simp only [j7,bC,tp,aq (show ¬((4+1:Nat):Int)≤4 by omega),cond_false],rfl,da,rfl,rm⟩) (by
  rintro k x hk ⟨a,s,m,rfl,da,rm⟩
  obtain ⟨b,a2,s2,e2,d2⟩:=qP code a s 3 da (by omega);have Xz:=rm.1;have hs:IntKind.i64.wrap (((k+1:Nat):Int)+(1:Int))=((k+1+1:Nat):Int):=by rw [dH]<;>omega
  simp only [j7,bC,tp,ak (show ((k+1:Nat):Int)≤4 by omega),cond_true,e2,Option.bind_some,aT (show (List.length m+1)*8≤lim by unfold lim;omega),hs]
  cases b
  ·exact .inr ⟨_,rfl,a2,s2,m++[(((k+1:Nat):Int),())],rfl,d2,rm.snoc⟩
  ·exact .inr ⟨_,rfl,a2,s2,m,rfl,d2,rm.up⟩) ⟨a1,s1,[],rfl,d1,by simp,fun j hj=>by simp at hj,fun i j hi=>by simp at hi⟩
 have he:aI j7 (code,a1,s1,(0:Int),[],1+v,[],(1:Int),())=some e:=he;rw [he]
 cases e with
 |inr e=>exact hq.elim
 |inl e=>
  obtain ⟨y1,y2,y3,y4,y5,y6,y7,_⟩:=e;obtain ⟨q1,q2,q3,q4⟩:=hq;simp only at q1 q2 q3 q4;subst q1 q3;simp only [kk];have q5:kP y7 5:=q4.up
  by_cases h0:((List.length y7:Nat):Int)=0
  ·rw [ak h0];have r4:kP [((2:Int),())] 4:=⟨by simp,fun j hj=>by
    have:j=0:=by simp at hj;omega
    subst this;simp,fun i j hi hj X2=>by simp at hi hj;omega⟩
   exact ⟨_,_,_,_,rfl,⟨by omega,by omega,by simp,r4.up⟩,by omega,r4,q2⟩
  ·rw [aq h0];exact ⟨_,_,_,_,rfl,⟨by omega,by omega,by omega,q5⟩,by omega,q4,q2⟩
end Go.TM
set_option linter.unusedSimpArgs false
set_option linter.unusedVariables false
namespace Go.TM
open Go
structure IH (rs:List Ee):Prop where
 some_:1≤rs.length
 Gx:rs.length≤5
 each:∀k (hk:k<rs.length),rs[k].1=((k+1:Nat):Int)∧IG rs[k].1 rs[k].2.1∧kP rs[k].2.1 3
theorem Oi (code:List (Int×Unit)) (a s:Int) (out:List Ee) (i c:Int) (d:ck code a):∃a' s' m,aI fX (code,a,s,out,i,c,[],(1:Int),())=some (.inl (code,a',s',out,i,c,m,()))∧kP m 3∧ck code a':=by
 obtain ⟨e,he,a',s',m,rfl,h1,h2⟩:=dA (round:=fX) (x:=(code,a,s,out,i,c,[],((0+1:Nat):Int),())) 3
  (fun k x=>∃(a s:Int) (m:List (Int×Unit)),x=(code,a,s,out,i,c,m,((k+1:Nat):Int),())∧ck code a∧kP m k)
  (fun e=>∃(a s:Int) (m:List (Int×Unit)),e=.inl (code,a,s,out,i,c,m,())∧kP m 3∧ck code a) (by
   rintro x ⟨a,s,m,rfl,da,rm⟩
   exact ⟨_,by simp only [fX,bC,nr,aq (show ¬((3+1:Nat):Int)≤3 by omega),cond_false],a,s,m,rfl,rm,da⟩) (by
   rintro k x hk ⟨a,s,m,rfl,da,rm⟩
   obtain ⟨b,a2,s2,e2,d2⟩:=qP code a s 4 da (by omega);have Xz:=rm.1;have hs:IntKind.i64.wrap (((k+1:Nat):Int)+(1:Int))=((k+1+1:Nat):Int):=by rw [dH]<;>omega
   simp only [fX,bC,nr,ak (show ((k+1:Nat):Int)≤3 by omega),cond_true,e2,Option.bind_some,aT (show (List.length m+1)*8≤lim by unfold lim;omega),hs]
   cases b
   ·exact .inr ⟨_,rfl,a2,s2,m++[(((k+1:Nat):Int),())],rfl,d2,rm.snoc⟩
   ·exact .inr ⟨_,rfl,a2,s2,m,rfl,d2,rm.up⟩) ⟨a,s,[],rfl,d,by simp,fun j hj=>by simp at hj,fun i j hi=>by simp at hi⟩
 exact ⟨a',s',m,he,h1,h2⟩
theorem afH {m:List (Int×Unit)} (h:kP m 3):kP m 5:=h.up.up
theorem Mm (code:List (Int×Unit)) (a s:Int) (d:ck code a):∃rs a' s',mX code a s=some (rs,code,a',s',())∧IH rs∧ck code a':=by
 obtain ⟨e,he,a',s',rs,rfl,h1,h2⟩:=dA (round:=fY) (x:=(code,a,s,[],((0:Nat):Int),())) 5
  (fun k x=>∃(a s:Int) (rs:List Ee),x=(code,a,s,rs,((k:Nat):Int),())∧ck code a∧rs.length=k∧∀j (hj:j<rs.length),rs[j].1=((j+1:Nat):Int)∧IG rs[j].1 rs[j].2.1∧kP rs[j].2.1 3)
  (fun e=>∃(a s:Int) (rs:List Ee),e=.inl (code,a,s,rs,())∧IH rs∧ck code a) (by
   rintro x ⟨a,s,rs,rfl,da,hl,hr⟩
   obtain ⟨b,a2,s2,e2,b1,b2,d2⟩:=dL code a s 5 da (by omega);exact ⟨_,by simp only [fY,aw,ns,e2,Option.bind_some,dH (show -9223372036854775808≤1+b by omega) (by omega),aq (show ¬((5:Nat):Int)<1+b by omega),cond_false],a2,s2,rs,rfl,⟨by omega,by omega,hr⟩,d2⟩) (by
   rintro k x hk ⟨a,s,rs,rfl,da,hl,hr⟩
   obtain ⟨b,a2,s2,e2,b1,b2,d2⟩:=dL code a s 5 da (by omega);simp only [fY,aw,ns,e2,Option.bind_some,dH (show -9223372036854775808≤1+b by omega) (by omega)]
   by_cases hb:((k:Nat):Int)<1+b
   case neg=>
    rw [aq hb];exact .inl ⟨_,rfl,a2,s2,rs,rfl,⟨by omega,by omega,hr⟩,d2⟩
   obtain ⟨a3,s3,m,e3,rm,d3⟩:=Oi code a2 s2 rs ((k:Nat):Int) ((k+1:Nat):Int) d2;have more:∀(a s:Int) (m:List (Int×Unit)),ck code a→1≤m.length→kP m 3→∃y,(some (.inl (code,a,s,rs++[(((k+1:Nat):Int),m,())],((k+1:Nat):Int),())):Option (Sum _ (Sum (List (Int×Unit)×Int×Int×List Ee×Unit) Unit)))=some (.inl y)∧∃(a s:Int) (rs:List Ee),y=(code,a,s,rs,((k+1:Nat):Int),())∧ck code a∧rs.length=k+1∧∀j (hj:j<rs.length),rs[j].1=((j+1:Nat):Int)∧IG rs[j].1 rs[j].2.1∧kP rs[j].2.1 3:=fun a s m da h1 rm=>⟨_,rfl,a,s,_,rfl,da,by rw [List.length_append,hl];rfl,fun j hj=>by
    rw [List.length_append,List.length_singleton] at hj
    by_cases e:j<rs.length
    ·rw [List.getElem_append_left e];exact hr j e
    ·have:j=rs.length:=by omega
     subst this;rw [List.getElem_append_right (Nat.le_refl _)];simp only [Nat.sub_self,List.getElem_cons_zero];exact ⟨by rw [hl],⟨by omega,by omega,h1,afH rm⟩,rm⟩⟩
   simp only [ak hb,cond_true,aN (show k<4611686018427387904 by omega),e3,kk];have Qg:Nat.ble ((rs.length+1)*32) lim=true:=aT (by rw [hl];unfold lim;omega)
   by_cases h0:((List.length m:Nat):Int)=0
   ·obtain ⟨v,a4,s4,e4,v1,v2,d4⟩:=dL code a3 s3 3 d3 (by omega);simp only [ak h0,cond_true,e4,Option.bind_some,Qg,dH (show -9223372036854775808≤1+v by omega) (by omega)];exact .inr (more a4 s4 [(1+v,())] d4 (by simp) ⟨by simp,fun j hj=>by
     have:j=0:=by simp at hj;omega
     subst this;exact ⟨by show 1≤1+v;omega,by show 1+v≤3;omega⟩,fun i j hi hj X2=>by simp at hi hj;omega⟩)
   ·simp only [aq h0,cond_false,Qg,cond_true];exact .inr (more a3 s3 m d3 (by omega) rm)) ⟨a,s,[],rfl,d,rfl,fun j hj=>by simp at hj⟩
 have he:aI fY (code,a,s,[],(0:Int),())=_:=he;refine ⟨rs,a',s',?_,h1,h2⟩;unfold mX;rw [he];rfl
end Go.TM
set_option linter.unusedSimpArgs false
set_option linter.unusedVariables false
namespace Go.TM
open Go
abbrev Oj:Type:=List (Int×eA×Unit)
abbrev Gl:Type:=Int×Int×Int×Int×Int×Int×ByteArray×Int×Int×Int×Int×Int×eA×Int×Int×Int×aW×Unit
abbrev me:Type:=Oj×List bZ×List Gl×List xQ×Unit
def Ac (w:me) (k:Nat) (d:bZ):me:=(w.1,w.2.1.set k d,w.2.2)
def fE (w:me) (l:List Gl):me:=(w.1,w.2.1,l,w.2.2.2)
def xk (w:me) (l:List xQ):me:=(w.1,w.2.1,w.2.2.1,l,())
theorem wg {k:Nat} (hk:k<1000):IntKind.i64.wrap (((k+1:Nat):Int)-1)=((k:Nat):Int):=by rw [dH]<;>omega
theorem py (w:me) (h:w.2.1.length≤5) {k:Nat} (hk:k<w.2.1.length) (d:bZ) (hd:d.1=((k+1:Nat):Int)):ed w.1 w.2.1 w.2.2.1 w.2.2.2.1 d.1 d.2.1 d.2.2.1 d.2.2.2.1 d.2.2.2.2.1 d.2.2.2.2.2.1 d.2.2.2.2.2.2.1 d.2.2.2.2.2.2.2.1 d.2.2.2.2.2.2.2.2.1 d.2.2.2.2.2.2.2.2.2.1 d.2.2.2.2.2.2.2.2.2.2.1 d.2.2.2.2.2.2.2.2.2.2.2.1 d.2.2.2.2.2.2.2.2.2.2.2.2.1 d.2.2.2.2.2.2.2.2.2.2.2.2.2.1 d.2.2.2.2.2.2.2.2.2.2.2.2.2.2.1 d.2.2.2.2.2.2.2.2.2.2.2.2.2.2.2.1 d.2.2.2.2.2.2.2.2.2.2.2.2.2.2.2.2.1 d.2.2.2.2.2.2.2.2.2.2.2.2.2.2.2.2.2.1 d.2.2.2.2.2.2.2.2.2.2.2.2.2.2.2.2.2.2.1 d.2.2.2.2.2.2.2.2.2.2.2.2.2.2.2.2.2.2.2.1 d.2.2.2.2.2.2.2.2.2.2.2.2.2.2.2.2.2.2.2.2.1 d.2.2.2.2.2.2.2.2.2.2.2.2.2.2.2.2.2.2.2.2.2.1 d.2.2.2.2.2.2.2.2.2.2.2.2.2.2.2.2.2.2.2.2.2.2.1 d.2.2.2.2.2.2.2.2.2.2.2.2.2.2.2.2.2.2.2.2.2.2.2.1=some ((Ac w k d).1,(Ac w k d).2.1,(Ac w k d).2.2.1,(Ac w k d).2.2.2.1,()):=by
 unfold ed;simp only [hd,wg (show k<1000 by omega),ax,aF,cond_true,List.nil_append,fW hk,List.getElem?_eq_getElem hk,Option.bind_some,aT (show (0+w.2.1.length)*320≤lim by unfold lim;omega)];rw [←hd];rfl
theorem Eg (w:me) (h:w.2.2.1.length≤1073741824) (x:Gl):eR w.1 w.2.1 w.2.2.1 w.2.2.2.1 x.1 x.2.1 x.2.2.1 x.2.2.2.1 x.2.2.2.2.1 x.2.2.2.2.2.1 x.2.2.2.2.2.2.1 x.2.2.2.2.2.2.2.1 x.2.2.2.2.2.2.2.2.1 x.2.2.2.2.2.2.2.2.2.1 x.2.2.2.2.2.2.2.2.2.2.1 x.2.2.2.2.2.2.2.2.2.2.2.1 x.2.2.2.2.2.2.2.2.2.2.2.2.1 x.2.2.2.2.2.2.2.2.2.2.2.2.2.1 x.2.2.2.2.2.2.2.2.2.2.2.2.2.2.1 x.2.2.2.2.2.2.2.2.2.2.2.2.2.2.2.1 x.2.2.2.2.2.2.2.2.2.2.2.2.2.2.2.2.1=some ((fE w (w.2.2.1++[x])).1,(fE w (w.2.2.1++[x])).2.1,(fE w (w.2.2.1++[x])).2.2.1,(fE w (w.2.2.1++[x])).2.2.2.1,()):=by
 unfold eR;simp only [List.nil_append,cond_true,aT (show (0+w.2.2.1.length)*176≤lim by unfold lim;omega),aT (show (w.2.2.1.length+1)*176≤lim by unfold lim;omega)];rfl
def Eh (BU c:Int) (x:dY):Gl:=(1,BU,c,x.1,x.2.1,x.2.2.1,x.2.2.2.1,0,0,0,0,0,[],0,0,0,[],())
def xl (BU c:Int) (t:mR):Gl:=(2,BU,c,0,0,0,ByteArray.empty,t.1,t.2.1,t.2.2.1,t.2.2.2.1,t.2.2.2.2.1,t.2.2.2.2.2.1,0,0,0,[],())
def Qp (BU c:Int) (b:ea):Gl:=(3,BU,c,0,0,0,ByteArray.empty,0,0,0,0,0,[],b.1,b.2.1,b.2.2.1,b.2.2.2.1,())
def eH (ms:eA) (c id:Int) (x:dY):List Gl:=(ms.filter fun m => !decide (m.1=id)).map fun m=>Eh m.1 c x
def dq (ms:eA) (c id:Int) (l:aW):List Gl:=l.flatMap (eH ms c id)
theorem Ju (ms:eA) (c id:Int) (x:dY) {k:Nat} (hk:k<ms.length):eH (ms.take (k+1)) c id x=eH (ms.take k) c id x++(bif !decide (ms[k].1=id) then [Eh ms[k].1 c x] else []):=by
 unfold eH;rw [List.take_succ_eq_append_getElem hk,List.filter_append,List.map_append,List.filter_cons,List.filter_nil]
 cases decide (ms[k].1=id)<;>rfl
theorem Ei (ms:eA) (c id:Int) (x:dY):(eH ms c id x).length≤ms.length:=by
 unfold eH;rw [List.length_map];exact List.length_filter_le _ _
theorem Ol (ms:eA) (c id:Int) (l:aW) {k:Nat} (hk:k<l.length):dq ms c id (l.take (k+1))=dq ms c id (l.take k)++eH ms c id l[k]:=by
 unfold dq;rw [List.take_succ_eq_append_getElem hk,List.flatMap_append];simp
theorem zH (ms:eA) (c id:Int) (hn:ms.length≤5):(l:aW)→(dq ms c id l).length≤5*l.length
 | []=>by simp [dq]
 |x::l=>by
  have h1:=zH ms c id hn l;have h2:=Ei ms c id x;have e:dq ms c id (x::l)=eH ms c id x++dq ms c id l:=rfl;rw [e,List.length_append,List.length_cons];omega
theorem Qq {ms:eA} {c id:Int} {l:aW} {f:Gl} (h:f∈dq ms c id l):∃m∈ms,∃x∈l,f=Eh m.1 c x:=by
 unfold dq at h;obtain ⟨x,hx,h⟩:=List.mem_flatMap.1 h;unfold eH at h;obtain ⟨m,hm,rfl⟩:=List.mem_map.1 h;exact ⟨m,(List.mem_filter.1 hm).1,x,hx,rfl⟩
theorem K4 (w:me) (c:Int) (ms:eA) (id:Int) (l:aW) (h1:ms.length≤5) (h2:w.2.2.1.length≤1073741824-1048576) (h3:l.length≤1000):nU w.1 w.2.1 w.2.2.1 w.2.2.2.1 c ms id l=some ((fE w (w.2.2.1++dq ms c id l)).1,(fE w (w.2.2.1++dq ms c id l)).2.1,(fE w (w.2.2.1++dq ms c id l)).2.2.1,(fE w (w.2.2.1++dq ms c id l)).2.2.2.1,()):=by
 have l1:=ca (round:=iM) (e:=.inl ((fE w (w.2.2.1++dq ms c id l)).1,(fE w (w.2.2.1++dq ms c id l)).2.1,(fE w (w.2.2.1++dq ms c id l)).2.2.1,(fE w (w.2.2.1++dq ms c id l)).2.2.2.1,())) l.length (fun i=>((fE w (w.2.2.1++dq ms c id (l.take i))).1,(fE w (w.2.2.1++dq ms c id (l.take i))).2.1,(fE w (w.2.2.1++dq ms c id (l.take i))).2.2.1,(fE w (w.2.2.1++dq ms c id (l.take i))).2.2.2.1,id,l,c,ms,((i:Nat):Int),())) (by
  simp only [iM,bC,tf,ev,aM,cond_false,List.take_length]) (fun i hi=>by
  have hb:=zH ms c id h1 (l.take i);rw [List.length_take] at hb;have l2:=ca (round:=jX) (e:=.inl ((fE w (w.2.2.1++dq ms c id (l.take i)++eH ms c id l[i])).1,(fE w (w.2.2.1++dq ms c id (l.take i)++eH ms c id l[i])).2.1,(fE w (w.2.2.1++dq ms c id (l.take i)++eH ms c id l[i])).2.2.1,(fE w (w.2.2.1++dq ms c id (l.take i)++eH ms c id l[i])).2.2.2.1,id,l,c,ms,((i:Nat):Int),())) ms.length (fun k=>((fE w (w.2.2.1++dq ms c id (l.take i)++eH (ms.take k) c id l[i])).1,(fE w (w.2.2.1++dq ms c id (l.take i)++eH (ms.take k) c id l[i])).2.1,(fE w (w.2.2.1++dq ms c id (l.take i)++eH (ms.take k) c id l[i])).2.2.1,(fE w (w.2.2.1++dq ms c id (l.take i)++eH (ms.take k) c id l[i])).2.2.2.1,id,l,c,ms,((i:Nat):Int),((k:Nat):Int),())) (by
   simp only [jX,bC,td,aw,aA,aM,cond_false,List.take_length]) (fun k hk=>by
   have Ms:=Ei (ms.take k) c id l[i];rw [List.length_take] at Ms;have hs:=Eg (fE w (w.2.2.1++dq ms c id (l.take i)++eH (ms.take k) c id l[i])) (by
    show (w.2.2.1++dq ms c id (l.take i)++eH (ms.take k) c id l[i]).length≤_;rw [List.length_append,List.length_append];omega) (Eh ms[k].1 c l[i])
   have hs:eR w.1 w.2.1 (w.2.2.1++dq ms c id (l.take i)++eH (ms.take k) c id l[i]) w.2.2.2.1 1 ms[k].1 c (l[i]).1 (l[i]).2.1 (l[i]).2.2.1 (l[i]).2.2.2.1 0 0 0 0 0 [] 0 0 0 []=_:=hs;simp only [jX,bC,td,aw,aA,aD hk,ax,cond_true,aF,List.getElem?_eq_getElem hk,List.getElem?_eq_getElem hi,Option.bind_some,aN (show k<4611686018427387904 by omega),Ju ms c id l[i] hk]
   cases decide (ms[k].1=id)
   ·simp only [Bool.not_false,cond_true,fE] at hs ⊢;rw [hs];simp only [Option.bind_some,List.append_assoc]
   ·simp only [Bool.not_true,cond_false,List.append_nil])
  have l2:aI jX ((fE w (w.2.2.1++dq ms c id (l.take i)++eH (ms.take 0) c id l[i])).1,(fE w (w.2.2.1++dq ms c id (l.take i)++eH (ms.take 0) c id l[i])).2.1,(fE w (w.2.2.1++dq ms c id (l.take i)++eH (ms.take 0) c id l[i])).2.2.1,(fE w (w.2.2.1++dq ms c id (l.take i)++eH (ms.take 0) c id l[i])).2.2.2.1,id,l,c,ms,((i:Nat):Int),(0:Int),())=_:=l2;rw [show eH (ms.take 0) c id l[i]=[] from rfl,List.append_nil] at l2;simp only [iM,bC,tf,ev,aD hi,cond_true,l2,bW,Option.bind_some,aN (show i<4611686018427387904 by omega),Ol ms c id l hi,List.append_assoc])
 have l1:aI iM ((fE w (w.2.2.1++dq ms c id (l.take 0))).1,(fE w (w.2.2.1++dq ms c id (l.take 0))).2.1,(fE w (w.2.2.1++dq ms c id (l.take 0))).2.2.1,(fE w (w.2.2.1++dq ms c id (l.take 0))).2.2.2.1,id,l,c,ms,(0:Int),())=_:=l1;rw [show dq ms c id (l.take 0)=[] from rfl,List.append_nil] at l1;unfold nU;have l1:aI iM (w.1,w.2.1,w.2.2.1,w.2.2.2.1,id,l,c,ms,(0:Int),())=_:=l1;rw [l1];rfl
theorem ZY (a b:Nat):Int.tmod ((a:Nat):Int) ((b:Nat):Int)=((a % b:Nat):Int):=rfl
theorem Xa {c:Int} {xs:eA} (hr:oR c xs) {id:Int} (hm:(id,())∈xs):∃b,wF c xs id=some (b,())∧1≤b∧b≤5:=by
 have hl:=hr.2.1.2;have h:xs.length≤1048576:=by omega
 unfold wF;rw [(uB c xs h).1,(uB c xs h).2.2.2 hr];obtain ⟨e,he,b,rfl,hb⟩:=dA (round:=nv) (x:=(id,c,xs,((0:Nat):Int),())) xs.length (fun k x=>x=(id,c,xs,((k:Nat):Int),())∧∀j (hj:j<xs.length),j<k→xs[j].1≠id) (fun e=>∃b,e=.inr (b,())∧1≤b∧b≤5) (by
   rintro x ⟨_,g⟩
   obtain ⟨j,hj,e⟩:=List.mem_iff_getElem.1 hm;exact absurd (congrArg Prod.fst e) (g j hj hj)) (by
   rintro k x hk ⟨rfl,g⟩
   have Ll:(k+1) % xs.length<xs.length:=Nat.mod_lt _ (by omega);simp only [nv,aw,AO,aD hk,ax,cond_true,aF,List.getElem?_eq_getElem hk,Option.bind_some,aN (show k<4611686018427387904 by omega),ZY,List.getElem?_eq_getElem Ll,aq (show ¬((List.length xs:Nat):Int)=0 by omega),cond_false]
   by_cases e:xs[k].1=id
   ·rw [ak e];exact .inl ⟨_,rfl,_,rfl,(hr.2.2 _ Ll Ll).1⟩
   ·rw [aq e];refine .inr ⟨_,rfl,rfl,fun j hj M9 => ?_⟩
    by_cases e2:j=k
    ·subst e2;exact e
    ·exact g j hj (by omega)) ⟨rfl,fun j _ h=>by omega⟩
 have he:aI nv (id,c,xs,(0:Int),())=some _:=he;simp only [Option.bind_some,Bool.not_true,cond_false,he];exact ⟨b,rfl,hb⟩
theorem K5 (w:me) {c:Int} {ms:eA} (hr:oR c ms) {id:Int} (hm:(id,())∈ms) (t:mR) (h2:w.2.2.1.length≤1073741824) (h3:t.2.2.2.2.2.1.length≤1048576):∃BU,(1≤BU∧BU≤5)∧lW w.1 w.2.1 w.2.2.1 w.2.2.2.1 c ms id t.1 t.2.1 t.2.2.1 t.2.2.2.1 t.2.2.2.2.1 t.2.2.2.2.2.1=some ((fE w (w.2.2.1++[xl BU c t])).1,(fE w (w.2.2.1++[xl BU c t])).2.1,(fE w (w.2.2.1++[xl BU c t])).2.2.1,(fE w (w.2.2.1++[xl BU c t])).2.2.2.1,()):=by
 obtain ⟨v,hv,hb⟩:=Xa hr hm;have hs:=Eg w h2 (xl v c t);have hs:eR w.1 w.2.1 w.2.2.1 w.2.2.2.1 2 v c 0 0 0 ByteArray.empty t.1 t.2.1 t.2.2.1 t.2.2.2.1 t.2.2.2.2.1 t.2.2.2.2.2.1 0 0 0 []=_:=hs;refine ⟨v,hb,?_⟩;unfold lW;delta aP;simp only [hv,Option.bind_some,(l9 t.1 t.2.1 t.2.2.1 t.2.2.2.1 t.2.2.2.2.1 t.2.2.2.2.2.1 h3).1,hs]
end Go.TM
