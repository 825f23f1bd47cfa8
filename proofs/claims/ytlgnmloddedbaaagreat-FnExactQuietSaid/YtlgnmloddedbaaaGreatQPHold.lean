/- What a member does that holds a token. -/
import Derived.Test.YtlgnmloddedbaaaGreatQPHoldL
set_option linter.unusedSimpArgs false
set_option linter.unusedVariables false
namespace Go.TM
open Go
theorem sI.id {m:eZ} (h:sI m):1≤m.1∧m.1≤5:=by
 obtain ⟨k,hk,e⟩:=List.mem_iff_getElem.1 h.mem;have:=(h.ring.2.2 k hk hk).1;rw [e] at this;exact this
theorem Ll {list:aW} {xs:km} {ms:List Int} {c c2:Int} (hx:we c xs xs.length) (hc:c≤c2) (hm:∀s∈ms,1≤s∧s≤c2):we c2 (aY (kn list xs ms)) (aY (kn list xs ms)).length:=by
 have hp:(kn list xs ms).Pairwise (· < ·):=List.Pairwise.sublist (List.take_sublist _ _) (List.Pairwise.filter _ (C2 60));have yx:∀s∈kn list xs ms,1≤s∧s≤c2:=by
  intro s hs;have h1:=List.mem_of_mem_take hs;have h2:=(List.mem_filter.1 h1).2;unfold gq at h2;rw [Bool.or_eq_true,Bool.and_eq_true,decide_eq_true_eq,decide_eq_true_eq] at h2;rcases h2 with ⟨_,h2⟩ | h2
  ·unfold bw at h2;obtain ⟨r,hr,rfl⟩:=List.mem_map.1 h2;obtain ⟨k,hk,rfl⟩:=List.mem_iff_getElem.1 hr;have:=hx k hk hk;exact ⟨this.1,by omega⟩
  ·exact hm s h2
 intro k hk _;have uP:k<(kn list xs ms).length:=by rwa [cu] at hk
 have e:∀j (hj:j<(aY (kn list xs ms)).length) (Zp:j<(kn list xs ms).length),(aY (kn list xs ms))[j].1=(kn list xs ms)[j]:=by intro j hj Zp;simp [aY]
 rw [e k hk uP];refine ⟨(yx _ (List.getElem_mem uP)).1,(yx _ (List.getElem_mem uP)).2,fun h0 => ?_⟩;rw [e (k-1) (by omega) (by omega)];exact List.pairwise_iff_getElem.1 hp (k-1) k (by omega) uP (by omega)
theorem wx.drop {l:km} (h:wx l l.length) (k:Nat):wx (l.drop k) (l.drop k).length:=by
 intro j hj _;rw [List.getElem_drop];rw [List.length_drop] at hj;exact h (k+j) (by omega) (by omega)
theorem jd.drop {l:List (ByteArray×Unit)} (h:jd l l.length) (k:Nat):jd (l.drop k) (l.drop k).length:=by
 intro j hj _;rw [List.getElem_drop];rw [List.length_drop] at hj;exact h (k+j) (by omega) (by omega)
structure Zu (m:eZ) (t:oN) (n:eZ) (said:aW) (k:Nat) (nx:oN):Prop where
 Cn:k≤3∧k≤m.q.1.length∧t.2.2.1+((k:Nat):Int)≤60
 said:said=th t m.2.2.2.1++dI t.2.2.1 m.1 m.2.2.2.2.1 m.q.1 k
 id:n.1=m.1∧n.2.1=m.2.1∧n.2.2.1=m.2.2.1
 items:n.2.2.2.1=bQ m.2.2.2.1 (dI t.2.2.1 m.1 m.2.2.2.2.1 m.q.1 k)
 words:n.2.2.2.2.1=m.2.2.2.2.1.drop k∧n.q.1=m.q.1.drop k
 round:n.q.2.1=t.2.1∧n.q.2.2.1=t.2.2.2.1∧m.q.2.2.2.1≤n.q.2.2.2.1∧n.q.2.2.2.2.1=m.q.2.2.2.2.1
 last:(n.q.q.1,n.q.q.2.1,n.q.q.2.2.1,n.q.q.2.2.2.1,n.q.q.2.2.2.2.1,n.q.q.q.1,())=nx
 nq:sI n
 tq:FI nx
 next:nx.1=t.1∧nx.2.1=t.2.1+1∧nx.2.2.1=t.2.2.1+((k:Nat):Int)
 ak7:k=min 3 m.q.1.length∨t.2.2.1+((k:Nat):Int)=60
 marks:nx.2.2.2.1=C0 (t.2.2.1+((k:Nat):Int)) (if t.2.2.2.1=t.2.2.1∧t.2.2.2.2.1=0 then t.2.2.1+((k:Nat):Int) else t.2.2.2.1) t.2.2.2.2.1 m.1 ((dw n.2.2.2.1:Nat):Int)∧nx.2.2.2.2.1=C1 (t.2.2.1+((k:Nat):Int)) (if t.2.2.2.1=t.2.2.1∧t.2.2.2.2.1=0 then t.2.2.1+((k:Nat):Int) else t.2.2.2.1) t.2.2.2.2.1 m.1 ((dw n.2.2.2.1:Nat):Int)
 line:n.q.2.2.2.1=m.q.2.2.2.1∨(n.q.2.2.2.1≤m.q.2.2.1∧n.q.2.2.2.1≤t.2.2.2.1∧n.q.2.2.2.1≤((dw n.2.2.2.1:Nat):Int))
 aeS:∀s∈bw nx.q.1,hasB n.2.2.2.1 s=false
 reach:∀x:Int,x≤m.q.2.2.1→x≤t.2.2.2.1→x≤((dw n.2.2.2.1:Nat):Int)→x≤n.q.2.2.2.1
theorem Tq (m:eZ) (t:oN) (hm:sI m) (ht:FI t) (hc:t.1=m.2.1) (hr1:m.q.2.1<t.2.1) (hr2:t.2.1<1000000000) :
  ∃(n:eZ) (said:aW) (k:Nat) (nx:oN),Zu m t n said k nx∧q9 m.1 m.2.1 m.2.2.1 m.2.2.2.1 m.2.2.2.2.1 m.q.1 m.q.2.1 m.q.2.2.1 m.q.2.2.2.1 m.q.2.2.2.2.1 m.q.q.1 m.q.q.2.1 m.q.q.2.2.1 m.q.q.2.2.2.1 m.q.q.2.2.2.2.1 m.q.q.q.1 t.1 t.2.1 t.2.2.1 t.2.2.2.1 t.2.2.2.2.1 t.q.1=some (n.1,n.2.1,n.2.2.1,n.2.2.2.1,n.2.2.2.2.1,n.q.1,n.q.2.1,n.q.2.2.1,n.q.2.2.2.1,n.q.2.2.2.2.1,n.q.q.1,n.q.q.2.1,n.q.q.2.2.1,n.q.q.2.2.2.1,n.q.q.2.2.2.2.1,n.q.q.q.1,said,((k:Nat):Int),nx.1,nx.2.1,nx.2.2.1,nx.2.2.2.1,nx.2.2.2.2.1,nx.q.1,true,())∧q8 m.1 m.2.1 m.2.2.1 m.2.2.2.1 m.2.2.2.2.1 m.q.1 m.q.2.1 m.q.2.2.1 m.q.2.2.2.1 m.q.2.2.2.2.1 m.q.q.1 m.q.q.2.1 m.q.q.2.2.1 m.q.q.2.2.2.1 m.q.q.2.2.2.2.1 m.q.q.q.1 t.1 t.2.1 t.2.2.1 t.2.2.2.1 t.2.2.2.2.1 t.q.1=some (n.1,n.2.1,n.2.2.1,n.2.2.2.1,n.2.2.2.2.1,n.q.1,n.q.2.1,n.q.2.2.1,n.q.2.2.2.1,n.q.2.2.2.2.1,n.q.q.1,n.q.q.2.1,n.q.q.2.2.1,n.q.q.2.2.2.1,n.q.q.2.2.2.2.1,n.q.q.q.1,said,nx.1,nx.2.1,nx.2.2.1,nx.2.2.2.1,nx.2.2.2.2.1,nx.q.1,true,()):=by
 have Hi:=hm.id;have hW:=hm.small;have hw:=hW;unfold EV at hw;have hwl:t.q.1.length≤20:=ht.q.1;obtain ⟨k,t3,hN,q1,q2,q3,q4,q5,q6⟩:=Lg t.1 t.2.1 t.2.2.1 t.2.2.2.1 t.2.2.2.2.1 t.q.1 m.1 m.2.2.2.2.1 m.q.1 (by omega) (by omega) Hi ht;obtain ⟨o0,o1,o2,o3,o4,o5,o6,s1,s2,_⟩:=HH t.1 t.2.1 t.2.2.1 t.2.2.2.1 t.2.2.2.2.1 t.q.1 m.1 m.2.2.2.2.1 m.q.1 (by omega);rw [hN] at s2;injection s2 with s2;simp only [Prod.mk.injEq] at s2;obtain ⟨rfl,rfl,rfl,rfl,rfl,rfl,rfl,_⟩:=s2;have hF:∀f∈dI t.2.2.1 m.1 m.2.2.2.2.1 m.q.1 k,nW f:=C4 ⟨ht.2.2.1.1,q3⟩ Hi q2 hm.short;have hFl:=j6 t.2.2.1 m.1 m.2.2.2.2.1 m.q.1 k;generalize hFF:dI t.2.2.1 m.1 m.2.2.2.2.1 m.q.1 k=F at *;subst hFl;have hi:=qV F hm.items hF;have his:=cQ _ hi;have apE:=cQ _ hm.items;obtain ⟨a1,a2,_⟩:=Cj (bQ m.2.2.2.1 F) (by omega);have amx:dw m.2.2.2.1≤dw (bQ m.2.2.2.1 F):=Jr (by omega) (by omega) fun r hr=>⟨r,C3 F hr,rfl⟩
 obtain ⟨z0,z1,z2,z3,z4,z5,z6⟩:=ht;have UB:we (t.2.2.1+((List.length F:Nat):Int)) t.q.1 t.q.1.length:=fun j hj Qo=>by
  have:=z6 j hj Qo;exact ⟨this.1,by omega,this.2.2⟩
 have ht3:0≤t3∧t3≤t.2.2.1+((List.length F:Nat):Int):=by
  have z3a:=z3.1;have z3b:=z3.2;have z2a:=z2.1;rcases q4 with e | e<;>rw [e]<;>omega
 have htq:FI (t.1,t.2.1,t.2.2.1+((List.length F:Nat):Int),t3,t.2.2.2.2.1,t.q.1,()):=⟨z0,z1,⟨by show 0≤t.2.2.1+_;omega,q3⟩,ht3,z4,z5,UB⟩;obtain ⟨u1,_,u3⟩:=Ci (t.1,t.2.1,t.2.2.1+((List.length F:Nat):Int),t3,t.2.2.2.2.1,t.q.1,()) (by show t.q.1.length≤_;omega);rw [u3.2 htq] at u1;obtain ⟨Zv,Ts,m1,m2,_,m4,m5⟩:=Rl t.1 t.2.1 (t.2.2.1+((List.length F:Nat):Int)) t3 t.2.2.2.2.1 t.q.1 m.1 ((dw (bQ m.2.2.2.1 F):Nat):Int) (by omega) u1;have m4:=m4 rfl Hi.1 Hi.2 (by omega) htq.2.2.2.1.1 htq.2.2.2.1.2;have m5:=m5 rfl Hi.1 Hi.2 (by omega);obtain ⟨ms,l1,l2,l3,l4⟩:=Jo (bQ m.2.2.2.1 F) (t.2.2.1+((List.length F:Nat):Int)) (by omega);have ls:=Li t.1 t.2.1 (t.2.2.1+((List.length F:Nat):Int)) Zv Ts t.q.1 (bQ m.2.2.2.1 F) ms (by omega) (by omega) l1 l3;have li:=Lj t.1 t.2.1 (t.2.2.1+((List.length F:Nat):Int)) Zv Ts t.q.1 (bQ m.2.2.2.1 F) ms (by omega) (by omega) l2 l3 (fun s hs=>⟨(l4 s hs).1,(l4 s hs).2.1.1,(l4 s hs).2.2⟩);have hlw:we (t.2.2.1+((List.length F:Nat):Int)) (aY (kn (bQ m.2.2.2.1 F) t.q.1 ms)) (aY (kn (bQ m.2.2.2.1 F) t.q.1 ms)).length:=Ll z6 (by omega) fun s hs=>⟨(l4 s hs).1,(l4 s hs).2.1.2⟩
 have hll:(aY (kn (bQ m.2.2.2.1 F) t.q.1 ms)).length≤20:=by
  rw [cu];unfold kn;rw [List.length_take];omega
 have hlk:∀s∈bw (aY (kn (bQ m.2.2.2.1 F) t.q.1 ms)),hasB (bQ m.2.2.2.1 F) s=false:=by
  rw [po];intro s hs;have h2:=(List.mem_filter.1 (List.mem_of_mem_take hs)).2;unfold gq at h2;rw [Bool.or_eq_true,Bool.and_eq_true,decide_eq_true_eq,decide_eq_true_eq] at h2;rcases h2 with ⟨h2,_⟩ | h2
  ·simpa using h2
  ·exact (l4 s h2).2.2
 generalize aY (kn (bQ m.2.2.2.1 F) t.q.1 ms)=W at *;have Tt:IntKind.i64.wrap (t.2.1+(1:Int))=t.2.1+1:=dk (by omega) (by omega);obtain ⟨c1,c2⟩:=gh t.1 (t.2.1+1) (t.2.2.1+((List.length F:Nat):Int)) Zv Ts W (by omega);have KO:EV m≤1048576:=by omega
 obtain ⟨kb1,kb2,kb3⟩:=xP m KO;rw [kb3.2 hm] at kb1 kb2;obtain ⟨kt1,kt2,kt3⟩:=Ci t (by omega);rw [kt3.2 ⟨z0,z1,z2,z3,z4,z5,z6⟩] at kt1 kt2;obtain ⟨p1,p2⟩:=mY m.1 m.2.1 m.2.2.1 m.2.2.2.1 m.2.2.2.2.1 m.q.1 m.q.2.1 m.q.2.2.1 m.q.2.2.2.1 m.q.2.2.2.2.1 m.q.q.1 m.q.q.2.1 m.q.q.2.2.1 m.q.q.2.2.2.1 m.q.q.2.2.2.2.1 m.q.q.q.1 KO;obtain ⟨g1,g2⟩:=Ro t m.2.2.2.1 (by omega) (by omega);have hgl:=E1 t m.2.2.2.1;have htx:=hm.texts;generalize hLN:(if (if ((dw (bQ m.2.2.2.1 F):Nat):Int)<(if t.2.2.2.1<m.q.2.2.1 then t.2.2.2.1 else m.q.2.2.1) then ((dw (bQ m.2.2.2.1 F):Nat):Int) else (if t.2.2.2.1<m.q.2.2.1 then t.2.2.2.1 else m.q.2.2.1))>m.q.2.2.2.1 then (if ((dw (bQ m.2.2.2.1 F):Nat):Int)<(if t.2.2.2.1<m.q.2.2.1 then t.2.2.2.1 else m.q.2.2.1) then ((dw (bQ m.2.2.2.1 F):Nat):Int) else (if t.2.2.2.1<m.q.2.2.1 then t.2.2.2.1 else m.q.2.2.1)) else m.q.2.2.2.1)=line;have hle:m.q.2.2.2.1≤line:=by
  rw [←hLN]
  split<;>omega
 have hnx:FI (t.1,t.2.1+1,t.2.2.1+((List.length F:Nat):Int),Zv,Ts,W,()):=⟨z0,⟨by show 1≤t.2.1+1;omega,by show t.2.1+1≤1000000000;omega⟩,⟨by show 0≤t.2.2.1+_;have:=z2.1;omega,q3⟩,⟨m4.1,m4.2.1⟩,by
  have z4a:=z4.1;have z4b:=z4.2;show 0≤Ts∧Ts≤5;rcases m4.2.2.2.2 with e | e | ⟨e,_⟩<;>rw [e]<;>omega,hll,hlw⟩
 refine ⟨(m.1,m.2.1,m.2.2.1,bQ m.2.2.2.1 F,m.2.2.2.2.1.drop F.length,m.q.1.drop F.length,t.2.1,t.2.2.2.1,line,m.q.2.2.2.2.1,t.1,t.2.1+1,t.2.2.1+((List.length F:Nat):Int),Zv,Ts,W,()),th t m.2.2.2.1++F,F.length,(t.1,t.2.1+1,t.2.2.1+((List.length F:Nat):Int),Zv,Ts,W,()),?_,?_,?_⟩
 ·have hn:sI (m.1,m.2.1,m.2.2.1,bQ m.2.2.2.1 F,m.2.2.2.2.1.drop F.length,m.q.1.drop F.length,t.2.1,t.2.2.2.1,line,m.q.2.2.2.2.1,t.1,t.2.1+1,t.2.2.1+((List.length F:Nat):Int),Zv,Ts,W,()):={
   ring:=hm.ring
   mem:=hm.mem
   items:=hi
   texts:=⟨by show (m.q.1.drop F.length).length≤20;rw [List.length_drop];omega,by show (m.2.2.2.2.1.drop F.length).length=(m.q.1.drop F.length).length;rw [List.length_drop,List.length_drop];omega⟩
   lev:=hm.lev.drop _
   short:=hm.short.drop _
   round:=⟨by show 0≤t.2.1;omega,by show t.2.1≤1000000000;omega⟩
   seen:=⟨z3.1,by show t.2.2.2.1≤60;have:=z3.2;omega⟩
   line:=by
    have hl:=hm.line;have hs:=hm.seen;have ha:=z3.1;show 0≤line∧line≤((dw (bQ m.2.2.2.1 F):Nat):Int);rw [←hLN]
    split<;>split<;>(try split)<;>omega
   heard:=by
    have hl:=hm.heard;show 0≤m.q.2.2.2.2.1∧m.q.2.2.2.2.1≤((dw (bQ m.2.2.2.1 F):Nat):Int);omega
   last:=.inr hnx }
  have aeT:F.length=min 3 m.q.1.length∨t.2.2.1+((F.length:Nat):Int)=60:=by
   rcases q5 with h | h | ⟨h,h'⟩
   ·exact .inl h
   ·exact .inr (by omega)
   ·have:=hm.short _ h h;omega
  have aeU:line=m.q.2.2.2.1∨(line≤m.q.2.2.1∧line≤t.2.2.2.1∧line≤((dw (bQ m.2.2.2.1 F):Nat):Int)):=by
   rw [←hLN]
   split<;>split<;>(try split)<;>omega
  have Zw:∀x:Int,x≤m.q.2.2.1→x≤t.2.2.2.1→x≤((dw (bQ m.2.2.2.1 F):Nat):Int)→x≤line:=by
   rw [←hLN];intro x x1 x2 x3
   split<;>split<;>(try split)<;>omega
  exact { Cn:=⟨q1,q2,q3⟩,said:=by rw [hFF],id:=⟨rfl,rfl,rfl⟩,items:=by rw [hFF],words:=⟨rfl,rfl⟩,round:=⟨rfl,rfl,hle,rfl⟩,last:=rfl,nq:=hn,tq:=hnx,next:=⟨rfl,rfl,rfl⟩,ak7:=aeT,marks:=⟨m5.1.trans (by rw [q6]),m5.2.trans (by rw [q6])⟩,line:=aeU,aeS:=hlk,reach:=Zw }
 ·unfold q9
  try simp only [jg]
  simp only [aj hc,aq (show ¬t.2.1≤m.q.2.1 by omega),aq (show ¬(1000000000:Int)≤t.2.1 by omega),kb2,kt2,p2,g2,hN,Option.bind_some,Bool.not_true,cond_false,cond_true,aw,aC,aj (show ((List.length F:Nat):Int)≤((List.length m.2.2.2.2.1:Nat):Int) by omega),aj (show ((List.length F:Nat):Int)≤((List.length m.q.1:Nat):Int) by omega)];rw [E2 (hx:=hm.items) (hf:=hF) (hn:=by omega) ..];simp only [cW,a2,m2,li,Tt,c2,Option.bind_some,hLN];rw [aQ (show ((th t m.2.2.2.1).length+F.length)*40≤lim by unfold lim;omega)];rfl
 ·subst hLN;unfold q8
  try simp only [jg]
  simp only [aj hc,aq (show ¬t.2.1≤m.q.2.1 by omega),aq (show ¬(1000000000:Int)≤t.2.1 by omega),kb1,kt1,p1,g1,s1,Option.bind_some,Bool.not_true,cond_false,cond_true,aw,aC,aj (show ((List.length F:Nat):Int)≤((List.length m.2.2.2.2.1:Nat):Int) by omega),aj (show ((List.length F:Nat):Int)≤((List.length m.q.1:Nat):Int) by omega),
   aQ (show (0+(th t m.2.2.2.1).length)*40≤lim by unfold lim;omega),aQ (show (0+(List.drop F.length m.2.2.2.2.1).length)*8≤lim by rw [List.length_drop];unfold lim;omega),aQ (show (0+(List.drop F.length m.q.1).length)*16≤lim by rw [List.length_drop];unfold lim;omega),List.nil_append]
  rw [E3 (hx:=hm.items) (hf:=hF) (hn:=by omega) ..];simp only [cW,a1,m1,Option.bind_some,aQ (show ((th t m.2.2.2.1).length+F.length)*40≤lim by unfold lim;omega),cond_true]
  by_cases h1:t.2.2.2.1<m.q.2.2.1
  ·rw [aj h1,if_pos h1];simp only [cond_true]
   by_cases h2:((dw (bQ m.2.2.2.1 F):Nat):Int)<t.2.2.2.1
   ·rw [aj h2,if_pos h2];simp only [cond_true]
    by_cases h3:m.q.2.2.2.1<((dw (bQ m.2.2.2.1 F):Nat):Int)
    ·rw [aj h3,if_pos (show ((dw (bQ m.2.2.2.1 F):Nat):Int)>m.q.2.2.2.1 from h3)];simp only [cond_true,ls,Tt,c1,Option.bind_some]
    ·rw [aq h3,if_neg (show ¬((dw (bQ m.2.2.2.1 F):Nat):Int)>m.q.2.2.2.1 from h3)];simp only [cond_false,ls,Tt,c1,Option.bind_some]
   ·rw [aq h2,if_neg h2];simp only [cond_false]
    by_cases h3:m.q.2.2.2.1<t.2.2.2.1
    ·rw [aj h3,if_pos (show t.2.2.2.1>m.q.2.2.2.1 from h3)];simp only [cond_true,ls,Tt,c1,Option.bind_some]
    ·rw [aq h3,if_neg (show ¬t.2.2.2.1>m.q.2.2.2.1 from h3)];simp only [cond_false,ls,Tt,c1,Option.bind_some]
  ·rw [aq h1,if_neg h1];simp only [cond_false]
   by_cases h2:((dw (bQ m.2.2.2.1 F):Nat):Int)<m.q.2.2.1
   ·rw [aj h2,if_pos h2];simp only [cond_true]
    by_cases h3:m.q.2.2.2.1<((dw (bQ m.2.2.2.1 F):Nat):Int)
    ·rw [aj h3,if_pos (show ((dw (bQ m.2.2.2.1 F):Nat):Int)>m.q.2.2.2.1 from h3)];simp only [cond_true,ls,Tt,c1,Option.bind_some]
    ·rw [aq h3,if_neg (show ¬((dw (bQ m.2.2.2.1 F):Nat):Int)>m.q.2.2.2.1 from h3)];simp only [cond_false,ls,Tt,c1,Option.bind_some]
   ·rw [aq h2,if_neg h2];simp only [cond_false]
    by_cases h3:m.q.2.2.2.1<m.q.2.2.1
    ·rw [aj h3,if_pos (show m.q.2.2.1>m.q.2.2.2.1 from h3)];simp only [cond_true,ls,Tt,c1,Option.bind_some]
    ·rw [aq h3,if_neg (show ¬m.q.2.2.1>m.q.2.2.2.1 from h3)];simp only [cond_false,ls,Tt,c1,Option.bind_some]
noncomputable def Mq (m:eZ) (t:oN):Bool:=xO m&&(FJ t&&(decide (t.1=m.2.1)&&(decide (m.q.2.1<t.2.1)&&decide (t.2.1<1000000000))))
theorem Tu (m:eZ) (t:oN) (h:EV m≤1048576) (hw:t.q.1.length≤1048576) (hn:Mq m t=false):q9 m.1 m.2.1 m.2.2.1 m.2.2.2.1 m.2.2.2.2.1 m.q.1 m.q.2.1 m.q.2.2.1 m.q.2.2.2.1 m.q.2.2.2.2.1 m.q.q.1 m.q.q.2.1 m.q.q.2.2.1 m.q.q.2.2.2.1 m.q.q.2.2.2.2.1 m.q.q.q.1 t.1 t.2.1 t.2.2.1 t.2.2.2.1 t.2.2.2.2.1 t.q.1=some ((0:Int),(0:Int),[],[],[],[],(0:Int),(0:Int),(0:Int),(0:Int),(0:Int),(0:Int),(0:Int),(0:Int),(0:Int),[],[],(0:Int),(0:Int),(0:Int),(0:Int),(0:Int),(0:Int),[],false,())∧
  q8 m.1 m.2.1 m.2.2.1 m.2.2.2.1 m.2.2.2.2.1 m.q.1 m.q.2.1 m.q.2.2.1 m.q.2.2.2.1 m.q.2.2.2.2.1 m.q.q.1 m.q.q.2.1 m.q.q.2.2.1 m.q.q.2.2.2.1 m.q.q.2.2.2.2.1 m.q.q.q.1 t.1 t.2.1 t.2.2.1 t.2.2.2.1 t.2.2.2.2.1 t.q.1=some (m.1,m.2.1,m.2.2.1,m.2.2.2.1,m.2.2.2.2.1,m.q.1,m.q.2.1,m.q.2.2.1,m.q.2.2.2.1,m.q.2.2.2.2.1,m.q.q.1,m.q.q.2.1,m.q.q.2.2.1,m.q.q.2.2.2.1,m.q.q.2.2.2.2.1,m.q.q.q.1,[],(0:Int),(0:Int),(0:Int),(0:Int),(0:Int),[],false,()):=by
 obtain ⟨k1,k2,_⟩:=xP m h;obtain ⟨t1,t2,_⟩:=Ci t hw;obtain ⟨p1,_⟩:=mY m.1 m.2.1 m.2.2.1 m.2.2.2.1 m.2.2.2.2.1 m.q.1 m.q.2.1 m.q.2.2.1 m.q.2.2.2.1 m.q.2.2.2.2.1 m.q.q.1 m.q.q.2.1 m.q.q.2.2.1 m.q.q.2.2.2.1 m.q.q.2.2.2.2.1 m.q.q.q.1 h;unfold Mq at hn
 constructor
 ·unfold q9
  try simp only [jg]
  by_cases a1:t.1=m.2.1
  case neg=>rw [aq a1];rfl
  by_cases a2:m.q.2.1<t.2.1
  case neg=>rw [aj a1,aj (show t.2.1≤m.q.2.1 by omega)];rfl
  by_cases a3:t.2.1<1000000000
  case neg=>rw [aj a1,aq (show ¬t.2.1≤m.q.2.1 by omega),aj (show (1000000000:Int)≤t.2.1 by omega)];rfl
  rw [aj a1,aj a2,aj a3] at hn;rw [aj a1,aq (show ¬t.2.1≤m.q.2.1 by omega),aq (show ¬(1000000000:Int)≤t.2.1 by omega)];simp only [Bool.not_true,cond_false,k2,Option.bind_some]
  cases hb:xO m
  ·rfl
  ·rw [hb] at hn
   cases hc:FJ t
   ·simp only [t2,hc,Bool.not_true,cond_false,Option.bind_some];rfl
   ·rw [hc] at hn;cases hn
 ·unfold q8
  try simp only [jg]
  simp only [p1,k1,Option.bind_some]
  cases hb:xO m
  ·rfl
  simp only [Bool.not_true,cond_false,t1,Option.bind_some]
  cases hc:FJ t
  ·rfl
  by_cases a1:t.1=m.2.1
  case neg=>rw [aq a1];rfl
  by_cases a2:m.q.2.1<t.2.1
  case neg=>rw [aj a1,aj (show t.2.1≤m.q.2.1 by omega)];rfl
  by_cases a3:t.2.1<1000000000
  case neg=>rw [aj a1,aq (show ¬t.2.1≤m.q.2.1 by omega),aj (show (1000000000:Int)≤t.2.1 by omega)];rfl
  rw [aj a1,aj a2,aj a3,hb,hc] at hn
  cases hn
end Go.TM
set_option linter.unusedSimpArgs false
set_option linter.unusedVariables false
namespace Go.TM
open Go
def aeV (m:eZ) (level:Int) (text:ByteArray):eZ:=(m.1,m.2.1,m.2.2.1,m.2.2.2.1,m.2.2.2.2.1++[(level,())],m.q.1++[(text,())],m.q.2)
theorem FL (c:Int) (xs:km) (h:xs.length≤1048576):gm c xs=some (c,xs,()):=by
 unfold gm;rw [re _ h];rfl
end Go.TM
set_option linter.unusedSimpArgs false
set_option linter.unusedVariables false
namespace Go.TM
open Go
theorem HM {c2 d:Int} {lv:km} {tx:List (ByteArray×Unit)} {m k:Nat} (hk:k<(dI c2 d lv tx m).length):(dI c2 d lv tx m)[k]=yu c2 d lv tx k:=by
 simp [dI]
theorem HN {c2 d:Int} {lv:km} {tx:List (ByteArray×Unit)} {m:Nat} {f:dv} (hf:f∈dI c2 d lv tx m):∃k,k<m∧f=yu c2 d lv tx k:=by
 obtain ⟨k,hk,rfl⟩:=List.mem_iff_getElem.1 hf;rw [j6] at hk;exact ⟨k,hk,HM _⟩
def yv (m:eZ) (v:Int):eZ:=(m.1,m.2.1,m.2.2.1,m.2.2.2.1,m.2.2.2.2.1,m.q.1,m.q.2.1,m.q.2.2.1,m.q.2.2.2.1,v,m.q.2.2.2.2.2)
theorem Tv {m:eZ} (hm:sI m):∃(k:Nat) (n:eZ),n=yv m (m.q.2.2.2.2.1+((k:Nat):Int))∧uu m.1 m.2.1 m.2.2.1 m.2.2.2.1 m.2.2.2.2.1 m.q.1 m.q.2.1 m.q.2.2.1 m.q.2.2.2.1 m.q.2.2.2.2.1 m.q.q.1 m.q.q.2.1 m.q.q.2.2.1 m.q.q.2.2.2.1 m.q.q.2.2.2.2.1 m.q.q.q.1=some (n.1,n.2.1,n.2.2.1,n.2.2.2.1,n.2.2.2.2.1,n.q.1,n.q.2.1,n.q.2.2.1,n.q.2.2.2.1,n.q.2.2.2.2.1,n.q.q.1,n.q.q.2.1,n.q.q.2.2.1,n.q.q.2.2.2.1,n.q.q.2.2.2.2.1,n.q.q.q.1,il m.2.2.2.1 m.q.2.2.2.2.1 k,())∧ur m.1 m.2.1 m.2.2.1 m.2.2.2.1 m.2.2.2.2.1 m.q.1 m.q.2.1 m.q.2.2.1 m.q.2.2.2.1 m.q.2.2.2.2.1 m.q.q.1 m.q.q.2.1 m.q.q.2.2.1 m.q.q.2.2.2.1 m.q.q.2.2.2.2.1 m.q.q.q.1=some (n.1,n.2.1,n.2.2.1,n.2.2.2.1,n.2.2.2.2.1,n.q.1,n.q.2.1,n.q.2.2.1,n.q.2.2.2.1,n.q.2.2.2.2.1,n.q.q.1,n.q.q.2.1,n.q.q.2.2.1,n.q.q.2.2.2.1,n.q.q.2.2.2.2.1,n.q.q.q.1,il m.2.2.2.1 m.q.2.2.2.2.1 k,())∧sI n∧
  m.q.2.2.2.2.1+((k:Nat):Int)≤((dw m.2.2.2.1:Nat):Int)∧(∀j,j<k→¬yT m.2.2.2.1 m.q.2.2.2.1 (m.q.2.2.2.2.1+((j+1:Nat):Int)))∧(m.q.2.2.2.2.1+((k:Nat):Int)<((dw m.2.2.2.1:Nat):Int)→yT m.2.2.2.1 m.q.2.2.2.1 (m.q.2.2.2.2.1+((k+1:Nat):Int))):=by
 have hw:=hm.small;have hb:=(xP m (Nat.le_trans hw (by decide))).2.2.2 hm;obtain ⟨k,v,h1,h2,h3,_,h5⟩:=Rj m (Nat.le_trans hw (by decide));subst h3;obtain ⟨g1,g2,g3⟩:=h5 hb;have hh:=hm.heard;exact ⟨k,_,rfl,h2,h1,{ ring:=hm.ring,mem:=hm.mem,items:=hm.items,texts:=hm.texts,lev:=hm.lev,short:=hm.short,round:=hm.round,seen:=hm.seen,line:=hm.line,heard:=⟨by show 0≤m.q.2.2.2.2.1+((k:Nat):Int);omega,g1⟩,last:=hm.last },g1,g2,g3⟩
end Go.TM
set_option linter.unusedSimpArgs false
set_option linter.unusedVariables false
namespace Go.TM
open Go
theorem map_take {α β:Type} (f:α→β) (xs:List α) {k:Nat} (hk:k<xs.length):(xs.take (k+1)).map f=(xs.take k).map f++[f xs[k]]:=by
 rw [List.take_succ_eq_append_getElem hk,List.map_append];rfl
end Go.TM
set_option linter.unusedSimpArgs false
set_option linter.unusedVariables false
namespace Go.TM
open Go
abbrev oO:Type:=Int×Bool×Int×Int×Int×Int×Int×km×Int×Int×Int×ByteArray×Unit
abbrev Tw:Type:=List (aW×Unit)
abbrev bT:Type:=Int×km×List eZ×List oO×Tw×aW×Unit
def uB (w:bT) (k:Nat) (m:eZ):bT:=(w.1,w.2.1,w.2.2.1.set k m,w.2.2.2)
def ln (w:bT) (l:List oO):bT:=(w.1,w.2.1,w.2.2.1,l,w.2.2.2.2)
def Zx (w:bT) (l:Tw):bT:=(w.1,w.2.1,w.2.2.1,w.2.2.2.1,l,w.2.2.2.2.2)
def aeW (w:bT) (l:aW):bT:=(w.1,w.2.1,w.2.2.1,w.2.2.2.1,w.2.2.2.2.1,l,())
theorem Zy (w:bT) (h:w.2.2.1.length≤1048576) (id:Int):∃a,rU w.1 w.2.1 w.2.2.1 w.2.2.2.1 w.2.2.2.2.1 w.q.1 id=some (a,w.1,w.2.1,w.2.2.1,w.2.2.2.1,w.2.2.2.2.1,w.q.1,())∧((a = -1∧∀k (hk:k<w.2.2.1.length),(w.2.2.1[k]).1≠id)∨∃k,∃hk:k<w.2.2.1.length,a=((k:Nat):Int)∧(w.2.2.1[k]).1=id):=by
 obtain ⟨e,he,hq⟩:=cL (round:=kq) (x:=(w.1,w.2.1,w.2.2.1,w.2.2.2.1,w.2.2.2.2.1,w.q.1,id,((0:Nat):Int),())) w.2.2.1.length (fun k x=>x=(w.1,w.2.1,w.2.2.1,w.2.2.2.1,w.2.2.2.2.1,w.q.1,id,((k:Nat):Int),())∧∀j (hj:j<w.2.2.1.length),j<k→(w.2.2.1[j]).1≠id)
  (fun e=>(e=.inl (w.1,w.2.1,w.2.2.1,w.2.2.2.1,w.2.2.2.2.1,w.q.1,())∧∀k (hk:k<w.2.2.1.length),(w.2.2.1[k]).1≠id)∨∃k,∃hk:k<w.2.2.1.length,e=.inr (w.1,w.2.1,w.2.2.1,w.2.2.2.1,w.2.2.2.2.1,w.q.1,((k:Nat):Int),())∧(w.2.2.1[k]).1=id) (by
   rintro x ⟨rfl,g⟩
   exact ⟨_,by simp only [kq,tD,aD,cond_false],.inl ⟨rfl,fun k hk=>g k hk hk⟩⟩) (by
   rintro k x hk ⟨rfl,g⟩
   simp only [kq,tD,az hk,aw,cond_true,aC,List.getElem?_eq_getElem hk,Option.bind_some,aE (show k<4611686018427387904 by omega)]
   by_cases e:(w.2.2.1[k]).1=id
   ·rw [aj e];exact .inl ⟨_,rfl,.inr ⟨k,hk,rfl,e⟩⟩
   ·rw [aq e];refine .inr ⟨_,rfl,rfl,fun j hj Bs => ?_⟩
    by_cases e2:j<k
    ·exact g j hj e2
    ·have:j=k:=by omega
     subst this;exact e) ⟨rfl,fun j hj h=>by omega⟩
 have he:aF kq (w.1,w.2.1,w.2.2.1,w.2.2.2.1,w.2.2.2.2.1,w.q.1,id,(0:Int),())=some e:=he;unfold rU;rw [he];rcases hq with ⟨rfl,g⟩ | ⟨k,hk,rfl,g⟩
 ·exact ⟨_,rfl,.inl ⟨rfl,g⟩⟩
 ·exact ⟨_,rfl,.inr ⟨k,hk,rfl,g⟩⟩
theorem E4 (w:bT) (h:w.2.2.1.length≤1048576) {k:Nat} (hk:k<w.2.2.1.length) (m:eZ):lC w.1 w.2.1 w.2.2.1 w.2.2.2.1 w.2.2.2.2.1 w.q.1 ((k:Nat):Int) m.1 m.2.1 m.2.2.1 m.2.2.2.1 m.2.2.2.2.1 m.q.1 m.q.2.1 m.q.2.2.1 m.q.2.2.2.1 m.q.2.2.2.2.1 m.q.q.1 m.q.q.2.1 m.q.q.2.2.1 m.q.q.2.2.2.1 m.q.q.2.2.2.2.1 m.q.q.q.1=some ((uB w k m).1,(uB w k m).2.1,(uB w k m).2.2.1,(uB w k m).2.2.2.1,(uB w k m).2.2.2.2.1,(uB w k m).q.1,()):=by
 unfold lC;simp only [aQ (show (0+w.2.2.1.length)*208≤lim by unfold lim;omega),aw,aC,List.nil_append,cX hk,List.getElem?_eq_getElem hk,Option.bind_some,cond_true];rfl
def gi (ms:List eZ) (id:Int) (x:dv):List oO:=(ms.filter fun m => !decide (m.1=id)).map fun m=>(m.1,false,0,0,0,0,0,[],x.1,x.2.1,x.2.2.1,x.2.2.2.1,())
def dY (ms:List eZ) (id:Int) (l:aW):List oO:=l.flatMap (gi ms id)
theorem HO (ms:List eZ) (id:Int) (x:dv) {k:Nat} (hk:k<ms.length):gi (ms.take (k+1)) id x=gi (ms.take k) id x++(bif !decide (ms[k].1=id) then [(ms[k].1,false,0,0,0,0,0,[],x.1,x.2.1,x.2.2.1,x.2.2.2.1,())] else []):=by
 unfold gi;rw [List.take_succ_eq_append_getElem hk,List.filter_append,List.map_append,List.filter_cons]
 cases decide (ms[k].1=id)<;>rfl
theorem C5 (ms:List eZ) (id:Int) (x:dv):(gi ms id x).length≤ms.length:=by
 unfold gi;rw [List.length_map];exact List.length_filter_le _ _
theorem E5 (ms:List eZ) (id:Int) (l:aW) {k:Nat} (hk:k<l.length):dY ms id (l.take (k+1))=dY ms id (l.take k)++gi ms id l[k]:=by
 unfold dY;rw [List.take_succ_eq_append_getElem hk,List.flatMap_append];simp
theorem oP (ms:List eZ) (id:Int) (n:Nat) (hn:ms.length≤n):(l:aW)→(dY ms id l).length≤n*l.length
 | []=>Nat.zero_le _
 |x::l=>by
  have h1:=C5 ms id x;have h2:=oP ms id n hn l;show (gi ms id x++dY ms id l).length≤n*(l.length+1);rw [List.length_append,Nat.mul_succ];omega
theorem GU {ms:List eZ} {id:Int} {l:aW} {f:oO} (h:f∈dY ms id l):∃m∈ms,∃x∈l,m.1≠id∧f=(m.1,false,0,0,0,0,0,[],x.1,x.2.1,x.2.2.1,x.2.2.2.1,()):=by
 unfold dY gi at h;obtain ⟨x,hx,h⟩:=List.mem_flatMap.1 h;obtain ⟨m,hm,rfl⟩:=List.mem_map.1 h;obtain ⟨hm,hn⟩:=List.mem_filter.1 hm;refine ⟨m,hm,x,hx,fun e => ?_,rfl⟩;rw [aj e] at hn
 cases hn
theorem Js (w:bT) (id:Int) (l:aW) (h1:w.2.2.1.length≤5) (h2:w.2.2.2.1.length≤1073741824) (h3:l.length≤1048576):nC w.1 w.2.1 w.2.2.1 w.2.2.2.1 w.2.2.2.2.1 w.q.1 id l=some ((ln w (w.2.2.2.1++dY w.2.2.1 id l)).1,(ln w (w.2.2.2.1++dY w.2.2.1 id l)).2.1,(ln w (w.2.2.2.1++dY w.2.2.1 id l)).2.2.1,(ln w (w.2.2.2.1++dY w.2.2.1 id l)).2.2.2.1,(ln w (w.2.2.2.1++dY w.2.2.1 id l)).2.2.2.2.1,(ln w (w.2.2.2.1++dY w.2.2.1 id l)).q.1,()):=by
 have inner:∀(fl:List oO) (i:Nat) (hi:i<l.length),fl.length≤2147483648→aF fR (w.1,w.2.1,w.2.2.1,w.2.2.2.1,w.2.2.2.2.1,w.q.1,id,l,fl,((i:Nat):Int),(0:Int),())=some (.inl (w.1,w.2.1,w.2.2.1,w.2.2.2.1,w.2.2.2.2.1,w.q.1,id,l,fl++gi w.2.2.1 id l[i],((i:Nat):Int),())):=by
  intro fl i hi hf;have l1:=bI (round:=fR) (e:=.inl (w.1,w.2.1,w.2.2.1,w.2.2.2.1,w.2.2.2.2.1,w.q.1,id,l,fl++gi w.2.2.1 id l[i],((i:Nat):Int),())) w.2.2.1.length (fun k=>(w.1,w.2.1,w.2.2.1,w.2.2.2.1,w.2.2.2.2.1,w.q.1,id,l,fl++gi (w.2.2.1.take k) id l[i],((i:Nat):Int),((k:Nat):Int),())) (by
   simp only [fR,qc,aD,cond_false,List.take_length]) (fun k hk=>by
   have hb:Nat.ble (((fl++gi (w.2.2.1.take k) id l[i]).length+1)*120) lim=true:=aQ (by
    have:=C5 (w.2.2.1.take k) id l[i];rw [List.length_take] at this;rw [List.length_append];unfold lim;omega)
   rw [HO w.2.2.1 id l[i] hk];simp only [fR,qc,az hk,aw,cond_true,aC,List.getElem?_eq_getElem hk,List.getElem?_eq_getElem hi,Option.bind_some,aE (show k<4611686018427387904 by omega),hb]
   cases decide ((w.2.2.1[k]).1=id)
   ·simp only [Bool.not_false,cond_true,List.append_assoc]
   ·simp only [Bool.not_true,cond_false,List.append_nil])
  have l1:aF fR (w.1,w.2.1,w.2.2.1,w.2.2.2.1,w.2.2.2.2.1,w.q.1,id,l,fl++gi (w.2.2.1.take 0) id l[i],((i:Nat):Int),(0:Int),())=_:=l1
  rwa [show gi (w.2.2.1.take 0) id l[i]=[] from rfl,List.append_nil] at l1
 have l2:=bI (round:=iy) (e:=.inl (w.1,w.2.1,w.2.2.1,w.2.2.2.1,w.2.2.2.2.1,w.q.1,w.2.2.2.1++dY w.2.2.1 id l,())) l.length (fun k=>(w.1,w.2.1,w.2.2.1,w.2.2.2.1,w.2.2.2.2.1,w.q.1,id,l,w.2.2.2.1++dY w.2.2.1 id (l.take k),((k:Nat):Int),())) (by
  simp only [iy,qd,aD,cond_false,List.take_length]) (fun k hk=>by
  have hl:=oP w.2.2.1 id 5 h1 (l.take k);rw [List.length_take] at hl;rw [E5 w.2.2.1 id l hk];simp only [iy,qd,az hk,cond_true,inner _ k hk (show (w.2.2.2.1++dY w.2.2.1 id (l.take k)).length≤2147483648 by rw [List.length_append];omega),bN,Option.bind_some,aE (show k<4611686018427387904 by omega),List.append_assoc])
 have l2:aF iy (w.1,w.2.1,w.2.2.1,w.2.2.2.1,w.2.2.2.2.1,w.q.1,id,l,w.2.2.2.1++dY w.2.2.1 id (l.take 0),(0:Int),())=_:=l2;rw [show dY w.2.2.1 id (l.take 0)=[] from rfl,List.append_nil] at l2;unfold nC;simp only [aQ (show (0+w.2.2.2.1.length)*120≤lim by unfold lim;omega),cond_true,List.nil_append,l2,bN,Option.bind_some];rfl
theorem OB (a b:Nat):Int.tmod ((a:Nat):Int) ((b:Nat):Int)=((a % b:Nat):Int):=rfl
noncomputable def jL (c:Int) (xs:km) (id:Int):Int:=match cC c xs id with | some x=>x.1 | none=>0
theorem Tx (c:Int) (xs:km) (id:Int) (h:xs.length≤1048576):cC c xs id=some (jL c xs id,()):=by
 have key:∃b,cC c xs id=some (b,()):=by
  unfold cC;rw [(HF c xs h).1]
  cases CY c xs
  ·exact ⟨0,rfl⟩
  obtain ⟨e,he,_⟩:=cL (round:=eA) (x:=(id,c,xs,((0:Nat):Int),())) xs.length (fun k x=>x=(id,c,xs,((k:Nat):Int),())) (fun _=>True) (by
    rintro x rfl
    exact ⟨.inl (),by simp only [eA,kZ,aD,cond_false],trivial⟩) (by
    rintro k x hk rfl
    have hm:(k+1) % xs.length<xs.length:=Nat.mod_lt _ (by omega);simp only [eA,kZ,az hk,aw,cond_true,aC,List.getElem?_eq_getElem hk,Option.bind_some,aE (show k<4611686018427387904 by omega),OB,List.getElem?_eq_getElem hm,aq (show ¬((List.length xs:Nat):Int)=0 by omega),cond_false]
    cases decide (xs[k].1=id)
    ·exact .inr ⟨_,rfl,rfl⟩
    ·exact .inl ⟨_,rfl,trivial⟩) rfl
  have he:aF eA (id,c,xs,(0:Int),())=some e:=he;simp only [Option.bind_some,Bool.not_true,cond_false,he]
  cases e
  ·exact ⟨_,rfl⟩
  ·exact ⟨_,rfl⟩
 obtain ⟨b,h1⟩:=key;have:jL c xs id=b:=by unfold jL;rw [h1]
 rw [this];exact h1
def iX (to_:Int) (t:oN):oO:=(to_,true,t.1,t.2.1,t.2.2.1,t.2.2.2.1,t.2.2.2.2.1,t.q.1,0,0,0,ByteArray.empty,())
theorem GV (w:bT) (id:Int) (t:oN) (h1:w.2.1.length≤1048576) (h2:w.2.2.2.1.length≤2147483648) (h3:t.q.1.length≤1048576):kt w.1 w.2.1 w.2.2.1 w.2.2.2.1 w.2.2.2.2.1 w.q.1 id t.1 t.2.1 t.2.2.1 t.2.2.2.1 t.2.2.2.2.1 t.q.1=some ((ln w (w.2.2.2.1++[iX (jL w.1 w.2.1 id) t])).1,(ln w (w.2.2.2.1++[iX (jL w.1 w.2.1 id) t])).2.1,(ln w (w.2.2.2.1++[iX (jL w.1 w.2.1 id) t])).2.2.1,(ln w (w.2.2.2.1++[iX (jL w.1 w.2.1 id) t])).2.2.2.1,(ln w (w.2.2.2.1++[iX (jL w.1 w.2.1 id) t])).2.2.2.2.1,(ln w (w.2.2.2.1++[iX (jL w.1 w.2.1 id) t])).q.1,()):=by
 unfold kt
 try simp only [jg]
 simp only [aQ (show (0+w.2.2.2.1.length)*120≤lim by unfold lim;omega),Tx w.1 w.2.1 id h1,(gh t.1 t.2.1 t.2.2.1 t.2.2.2.1 t.2.2.2.2.1 t.q.1 h3).1,Option.bind_some,cond_true,List.nil_append,aQ (show (w.2.2.2.1.length+1)*120≤lim by unfold lim;omega)];rfl
def E6 (m:eZ):aW:=m.2.2.2.1.filter fun x=>decide (x.2.1=m.1)
def jX (m:eZ):oN:=(m.q.q.1,m.q.q.2.1,m.q.q.2.2.1,m.q.q.2.2.2.1,m.q.q.2.2.2.2.1,m.q.q.q.1,())
noncomputable def tN (w:bT) (m:eZ):bT:=ln w (w.2.2.2.1++[iX (jL w.1 w.2.1 m.1) (jX m)]++dY w.2.2.1 m.1 (E6 m))
theorem OC (w:bT) {k:Nat} (hk:k<w.2.2.1.length) (h1:w.2.2.1.length≤5) (h2:w.2.2.2.1.length≤1073741823) (h3:w.2.1.length≤1048576) (h4:(w.2.2.1[k]).2.2.2.1.length≤1048576) (h5:(w.2.2.1[k]).q.q.q.1.length≤1048576) :
  mg w.1 w.2.1 w.2.2.1 w.2.2.2.1 w.2.2.2.2.1 w.q.1 ((k:Nat):Int)=(bif qm (jX w.2.2.1[k]) then some ((1:Int),w.1,w.2.1,w.2.2.1,w.2.2.2.1,w.2.2.2.2.1,w.q.1,()) else some ((0:Int),(tN w w.2.2.1[k]).1,(tN w w.2.2.1[k]).2.1,(tN w w.2.2.1[k]).2.2.1,(tN w w.2.2.1[k]).2.2.2.1,(tN w w.2.2.1[k]).2.2.2.2.1,(tN w w.2.2.1[k]).q.1,())):=by
 generalize hm:w.2.2.1[k]=m at *;have l1:=bI (round:=gF) (e:=.inl (w.1,w.2.1,w.2.2.1,w.2.2.2.1,w.2.2.2.2.1,w.q.1,m.1,m.2.1,m.2.2.1,m.2.2.2.1,m.2.2.2.2.1,m.q.1,m.q.2.1,m.q.2.2.1,m.q.2.2.2.1,m.q.2.2.2.2.1,m.q.q.1,m.q.q.2.1,m.q.q.2.2.1,m.q.q.2.2.2.1,m.q.q.2.2.2.2.1,m.q.q.q.1,E6 m,())) m.2.2.2.1.length (fun i=>(w.1,w.2.1,w.2.2.1,w.2.2.2.1,w.2.2.2.2.1,w.q.1,m.1,m.2.1,m.2.2.1,m.2.2.2.1,m.2.2.2.2.1,m.q.1,m.q.2.1,m.q.2.2.1,m.q.2.2.2.1,m.q.2.2.2.2.1,m.q.q.1,m.q.q.2.1,m.q.q.2.2.1,m.q.q.2.2.2.1,m.q.q.2.2.2.2.1,m.q.q.q.1,(m.2.2.2.1.take i).filter (fun x=>decide (x.2.1=m.1)),((i:Nat):Int),())) (by
  simp only [gF,oz,aD,cond_false,List.take_length];rfl) (fun i hi=>by
  have hb:Nat.ble ((((m.2.2.2.1.take i).filter (fun x=>decide (x.2.1=m.1))).length+1)*40) lim=true:=aQ (by
   have:=List.length_filter_le (fun x:dv=>decide (x.2.1=m.1)) (m.2.2.2.1.take i);rw [List.length_take] at this;unfold lim;omega)
  rw [List.take_succ_eq_append_getElem hi,List.filter_append,List.filter_cons];simp only [gF,oz,az hi,aw,cond_true,aC,List.getElem?_eq_getElem hi,Option.bind_some,aE (show i<4611686018427387904 by omega),hb]
  by_cases e:(m.2.2.2.1[i]).2.1=m.1
  ·rw [aj e];rfl
  ·rw [aq e];simp only [cond_false];rw [if_neg (by decide)];simp)
 have l1:aF gF (w.1,w.2.1,w.2.2.1,w.2.2.2.1,w.2.2.2.2.1,w.q.1,m.1,m.2.1,m.2.2.1,m.2.2.2.1,m.2.2.2.2.1,m.q.1,m.q.2.1,m.q.2.2.1,m.q.2.2.2.1,m.q.2.2.2.2.1,m.q.q.1,m.q.q.2.1,m.q.q.2.2.1,m.q.q.2.2.2.1,m.q.q.2.2.2.2.1,m.q.q.q.1,[],(0:Int),())=_:=l1;unfold mg;have hb:eo m.q.q.1 m.q.q.2.1 m.q.q.2.2.1 m.q.q.2.2.2.1 m.q.q.2.2.2.2.1 m.q.q.q.1=some (qm (jX m),()):=(Bj (jX m)).1;simp only [aw,cond_true,aC,List.getElem?_eq_getElem hk,hm,Option.bind_some,hb]
 cases qm (jX m)
 ·have t1:kt w.1 w.2.1 w.2.2.1 w.2.2.2.1 w.2.2.2.2.1 w.q.1 m.1 m.q.q.1 m.q.q.2.1 m.q.q.2.2.1 m.q.q.2.2.2.1 m.q.q.2.2.2.2.1 m.q.q.q.1=_:=GV w m.1 (jX m) h3 (by omega) h5;have t2:=Js (ln w (w.2.2.2.1++[iX (jL w.1 w.2.1 m.1) (jX m)])) m.1 (E6 m) h1 (by show (w.2.2.2.1++[_]).length≤_;rw [List.length_append,List.length_singleton];omega) (Nat.le_trans (List.length_filter_le _ _) h4);simp only [cond_false,l1,bN,t1,Option.bind_some,t2];rfl
 ·rfl
structure aeX (f:oO):Prop where
 tok:f.2.1=true→FI (f.2.2.1,f.2.2.2.1,f.2.2.2.2.1,f.q.1,f.q.2.1,f.q.2.2.1,())
 item:f.2.1=false→nW (f.q.2.2.2.1,f.q.2.2.2.2.1,f.q.q.1,f.q.q.2.1,())
 Cn:f.q.2.2.1.length≤20
structure uC (n:Nat) (c:Int) (ms:km) (w:bT):Prop where
 ring:EU c ms
 self:w.1=c∧w.2.1=ms
 len:w.2.2.1.length=ms.length
 ids:∀k (hk:k<w.2.2.1.length) (hm:k<ms.length),(w.2.2.1[k]).1=ms[k].1
 sA:∀m∈w.2.2.1,sI m∧m.2.1=c∧m.2.2.1=ms
 JH:∀f∈w.2.2.2.1,aeX f
 Cn:w.2.2.2.1.length≤400*(n+1)
 heard:w.2.2.2.2.1.length=ms.length
 list:∀h∈w.2.2.2.2.1,h.1.length≤60*n
 said:(∀x∈w.q.1,nW x)∧w.q.1.length≤63*n
theorem uC.up {n n':Nat} {c:Int} {ms:km} {w:bT} (h:uC n c ms w) (hn:n≤n'):uC n' c ms w:=
 { h with Cn:=by have:=h.Cn;omega,list:=fun x hx=>by have:=h.list x hx;omega,said:=⟨h.said.1,by have:=h.said.2;omega⟩ }
theorem uC.Lm {n:Nat} {c:Int} {ms:km} {w:bT} (h:uC n c ms w) {k:Nat} (hk:k<w.2.2.1.length) {m:eZ} (hm:sI m) (h1:m.1=(w.2.2.1[k]).1) (h2:m.2.1=(w.2.2.1[k]).2.1) (h3:m.2.2.1=(w.2.2.1[k]).2.2.1):uC n c ms (uB w k m):=
 {
  h with
  len:=by show (w.2.2.1.set k m).length=_;rw [List.length_set];exact h.len
  ids:=fun j hj Br=>by
   have hj:j<(w.2.2.1.set k m).length:=hj;show ((w.2.2.1.set k m)[j]).1=_;rw [List.getElem_set];rw [List.length_set] at hj
   split
   ·rename_i e;subst e;rw [h1];exact h.ids k hk Br
   ·exact h.ids j hj Br
  sA:=fun x hx=>by
   have hx:x∈w.2.2.1.set k m:=hx;rcases List.mem_or_eq_of_mem_set hx with hx | rfl
   ·exact h.sA x hx
   ·have:=h.sA _ (List.getElem_mem hk);exact ⟨hm,h2.trans this.2.1,h3.trans this.2.2⟩ }
theorem uC.Rq {n:Nat} {c:Int} {ms:km} {w:bT} (h:uC n c ms w) {l:List oO} (h1:∀f∈l,aeX f) (h2:l.length≤400*(n+1)):uC n c ms (ln w l):={ h with JH:=h1,Cn:=h2 }
theorem uC.Df {n:Nat} {c:Int} {ms:km} {w:bT} (h:uC n c ms w):w.2.2.1.length≤5∧w.2.1.length≤5∧ms.length≤5:=by
 have:=h.ring.2.1.2;have:=h.len;rw [h.self.2];omega
theorem Ln {m:eZ} (hm:sI m) {x:dv} (hx:nW x):sI (Cl m (pM m.2.2.2.1 x)):=by
 have hi:=(cQ _ hm.items).1;have hp:=EX hm.items hx;have TN:=(cQ _ hp).1;have ha:dw m.2.2.2.1≤dw (pM m.2.2.2.1 x):=Jr (by omega) (by omega) fun r hr=>⟨r,Cm hr,rfl⟩
 exact { hm with
  items:=hp
  line:=⟨hm.line.1,by have:=hm.line.2;show m.q.2.2.2.1≤((dw (pM m.2.2.2.1 x):Nat):Int);omega⟩
  heard:=⟨hm.heard.1,by have:=hm.heard.2;show m.q.2.2.2.2.1≤((dw (pM m.2.2.2.1 x):Nat):Int);omega⟩ }
theorem OD {m:eZ} (hm:sI m) {x:dv} (hx:nW x):qn m x=Cl m (pM m.2.2.2.1 x):=by
 have hi:=(cQ _ hm.items).1;unfold qn OA;rw [(xP m (Nat.le_trans hm.small (by decide))).2.2.2 hm,(xN _ (by omega)).2.2.2 hm.items,(Bi x).2.2.2 hx];rfl
end Go.TM
set_option linter.unusedSimpArgs false
set_option linter.unusedVariables false
namespace Go.TM
open Go
theorem Jt {ms:km} (h:Le ms ms.length) {i j:Nat} (hj:j<ms.length) (hij:i<j):(ms[i]'(by omega)).1<ms[j].1:=by
 have key:∀(d i:Nat) (hi:i+d+1<ms.length),ms[i].1<ms[i+d+1].1:=by
  intro d
  induction d with
  |zero=>intro i hi;exact (h (i+1) hi hi).2 (by omega)
  |succ d ih=>
   intro i hi;have h1:=ih i (by omega);have h2:=(h (i+(d+1)+1) hi hi).2 (by omega);have e:i+(d+1)+1-1=i+d+1:=by omega
   simp only [e] at h2;omega
 have:=key (j-i-1) i (by omega);simpa [show i+(j-i-1)+1=j by omega] using this
theorem Tz {ms:km} (h:Le ms ms.length) {i j:Nat} (hi:i<ms.length) (hj:j<ms.length) (e:ms[i].1=ms[j].1):i=j:=by
 by_cases h1:i<j
 ·have:=Jt h hj h1;omega
 by_cases h2:j<i
 ·have:=Jt h hi h2;omega
 omega
structure Rr (R:Nat) (S:Int) (ms:km) (f:oO):Prop where
 tok:f.2.1=true→∃r:Nat,1≤r∧r≤R∧f.2.2.2.1=((r:Nat):Int)∧(∃x,ms[(r-1) % ms.length]?=some x∧f.1=x.1)∧(r=R→f.2.2.2.2.1=S)
 item:f.2.1=false→f.q.2.2.2.1≤S
structure Mr (R:Nat) (S:Int) (len k:Nat) (m:eZ):Prop where
 items:∀x∈m.2.2.2.1,x.1≤S
 last:∃q:Nat,m.q.2.1=((q:Nat):Int)∧q<R∧(∀r,1≤r→r<R→(r-1) % len=k→r≤q)∧(Blank (jX m)∨(1≤q∧(q-1) % len=k∧(jX m).2.1=((q+1:Nat):Int)∧(q+1=R→(jX m).2.2.1=S)))
structure Zz (R:Nat) (S:Int) (ms:km) (w:bT):Prop where
 JH:∀f∈w.2.2.2.1,Rr R S ms f
 Lm:∀k (hk:k<w.2.2.1.length),Mr R S ms.length k w.2.2.1[k]
 said:∀x∈w.q.1,x.1≤S
theorem Zz.Rq {R:Nat} {S:Int} {ms:km} {w:bT} (h:Zz R S ms w) {l:List oO} (hl:∀f∈l,Rr R S ms f):Zz R S ms (ln w l):={ JH:=hl,Lm:=h.Lm,said:=h.said }
theorem Mr.same {R:Nat} {S:Int} {len k:Nat} {m m':eZ} (h:Mr R S len k m) (h1:m'.2.2.2.1=m.2.2.2.1) (h2:m'.q.2.1=m.q.2.1) (h3:jX m'=jX m):Mr R S len k m':=⟨h1▸h.items,by rw [h2,h3];exact h.last⟩
theorem Rr.up {R:Nat} {S:Int} {ms:km} {f:oO} (h:Rr R S ms f) {j:Nat}:Rr (R+1) (S+((j:Nat):Int)) ms f:=
 ⟨fun e=>by
  obtain ⟨r,r1,r2,r3,r4,_⟩:=h.tok e;exact ⟨r,r1,by omega,r3,r4,fun h=>by omega⟩,fun e=>by have:=h.item e;omega⟩
end Go.TM
