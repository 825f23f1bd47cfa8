/- What a member does that holds a token. -/
import Derived.Test.YtlgnmloddedbaaaGreatGPHoldL
set_option linter.unusedSimpArgs false
set_option linter.unusedVariables false
namespace Go.TM
open Go
theorem ra.id {m:ia} (h:ra m):1≤m.1∧m.1≤5:=by
 obtain ⟨k,hk,e⟩:=List.mem_iff_getElem.1 h.mem;have:=(h.ring.2.2 k hk hk).1;rw [e] at this;exact this
theorem RW {list:aZ} {xs:cG} {ms:List Int} {c c2:Int} (hx:Ah c xs xs.length) (hc:c≤c2) (hm:∀s∈ms,1≤s∧s≤c2):Ah c2 (bK (nk list xs ms)) (bK (nk list xs ms)).length:=by
 have hp:(nk list xs ms).Pairwise (· < ·):=List.Pairwise.sublist (List.take_sublist _ _) (List.Pairwise.filter _ (G4 60));have Ef:∀s∈nk list xs ms,1≤s∧s≤c2:=by
  intro s hs;have h1:=List.mem_of_mem_take hs;have h2:=(List.mem_filter.1 h1).2;unfold jH at h2;rw [Bool.or_eq_true,Bool.and_eq_true,decide_eq_true_eq,decide_eq_true_eq] at h2;rcases h2 with ⟨_,h2⟩ | h2
  ·unfold cE at h2;obtain ⟨r,hr,rfl⟩:=List.mem_map.1 h2;obtain ⟨k,hk,rfl⟩:=List.mem_iff_getElem.1 hr;have:=hx k hk hk;exact ⟨this.1,by omega⟩
  ·exact hm s h2
 intro k hk _;have Ka:k<(nk list xs ms).length:=by rwa [dZ] at hk
 have e:∀j (hj:j<(bK (nk list xs ms)).length) (hj':j<(nk list xs ms).length),(bK (nk list xs ms))[j].1=(nk list xs ms)[j]:=by intro j hj hj';simp [bK]
 rw [e k hk Ka];refine ⟨(Ef _ (List.getElem_mem Ka)).1,(Ef _ (List.getElem_mem Ka)).2,fun h0 => ?_⟩;rw [e (k-1) (by omega) (by omega)];exact List.pairwise_iff_getElem.1 hp (k-1) k (by omega) Ka (by omega)
theorem yC.drop {l:cG} (h:yC l l.length) (k:Nat):yC (l.drop k) (l.drop k).length:=by
 intro j hj _;rw [List.getElem_drop];rw [List.length_drop] at hj;exact h (k+j) (by omega) (by omega)
theorem la.drop {l:List (ByteArray×Unit)} (h:la l l.length) (k:Nat):la (l.drop k) (l.drop k).length:=by
 intro j hj _;rw [List.getElem_drop];rw [List.length_drop] at hj;exact h (k+j) (by omega) (by omega)
structure Zx (m:ia) (t:gN) (n:ia) (said:aZ) (k:Nat) (nx:gN):Prop where
 E8:k≤3∧k≤m.q.1.length∧t.2.2.1+((k:Nat):Int)≤60
 said:said=qX t m.2.2.2.1++de t.2.2.1 m.1 m.2.2.2.2.1 m.q.1 k
 id:n.1=m.1∧n.2.1=m.2.1∧n.2.2.1=m.2.2.1
 items:n.2.2.2.1=cZ m.2.2.2.1 (de t.2.2.1 m.1 m.2.2.2.2.1 m.q.1 k)
 words:n.2.2.2.2.1=m.2.2.2.2.1.drop k∧n.q.1=m.q.1.drop k
 round:n.q.2.1=t.2.1∧n.q.2.2.1=t.2.2.2.1∧m.q.2.2.2.1≤n.q.2.2.2.1∧n.q.2.2.2.2.1=m.q.2.2.2.2.1
 last:(n.q.q.1,n.q.q.2.1,n.q.q.2.2.1,n.q.q.2.2.2.1,n.q.q.2.2.2.2.1,n.q.q.q.1,())=nx
 nq:ra n
 tq:Gf nx
 next:nx.1=t.1∧nx.2.1=t.2.1+1∧nx.2.2.1=t.2.2.1+((k:Nat):Int)
 yE:k=min 3 m.q.1.length∨t.2.2.1+((k:Nat):Int)=60
 marks:nx.2.2.2.1=G2 (t.2.2.1+((k:Nat):Int)) (if t.2.2.2.1=t.2.2.1∧t.2.2.2.2.1=0 then t.2.2.1+((k:Nat):Int) else t.2.2.2.1) t.2.2.2.2.1 m.1 ((dJ n.2.2.2.1:Nat):Int)∧nx.2.2.2.2.1=G3 (t.2.2.1+((k:Nat):Int)) (if t.2.2.2.1=t.2.2.1∧t.2.2.2.2.1=0 then t.2.2.1+((k:Nat):Int) else t.2.2.2.1) t.2.2.2.2.1 m.1 ((dJ n.2.2.2.1:Nat):Int)
 line:n.q.2.2.2.1=m.q.2.2.2.1∨(n.q.2.2.2.1≤m.q.2.2.1∧n.q.2.2.2.1≤t.2.2.2.1∧n.q.2.2.2.1≤((dJ n.2.2.2.1:Nat):Int))
 Tu:∀s∈cE nx.q.1,hasB n.2.2.2.1 s=false
 reach:∀x:Int,x≤m.q.2.2.1→x≤t.2.2.2.1→x≤((dJ n.2.2.2.1:Nat):Int)→x≤n.q.2.2.2.1
theorem abt (m:ia) (t:gN) (hm:ra m) (ht:Gf t) (hc:t.1=m.2.1) (hr1:m.q.2.1<t.2.1) (hr2:t.2.1<1000000000) :
  ∃(n:ia) (said:aZ) (k:Nat) (nx:gN),Zx m t n said k nx∧mf m.1 m.2.1 m.2.2.1 m.2.2.2.1 m.2.2.2.2.1 m.q.1 m.q.2.1 m.q.2.2.1 m.q.2.2.2.1 m.q.2.2.2.2.1 m.q.q.1 m.q.q.2.1 m.q.q.2.2.1 m.q.q.2.2.2.1 m.q.q.2.2.2.2.1 m.q.q.q.1 t.1 t.2.1 t.2.2.1 t.2.2.2.1 t.2.2.2.2.1 t.q.1=some (n.1,n.2.1,n.2.2.1,n.2.2.2.1,n.2.2.2.2.1,n.q.1,n.q.2.1,n.q.2.2.1,n.q.2.2.2.1,n.q.2.2.2.2.1,n.q.q.1,n.q.q.2.1,n.q.q.2.2.1,n.q.q.2.2.2.1,n.q.q.2.2.2.2.1,n.q.q.q.1,said,((k:Nat):Int),nx.1,nx.2.1,nx.2.2.1,nx.2.2.2.1,nx.2.2.2.2.1,nx.q.1,true,())∧lY m.1 m.2.1 m.2.2.1 m.2.2.2.1 m.2.2.2.2.1 m.q.1 m.q.2.1 m.q.2.2.1 m.q.2.2.2.1 m.q.2.2.2.2.1 m.q.q.1 m.q.q.2.1 m.q.q.2.2.1 m.q.q.2.2.2.1 m.q.q.2.2.2.2.1 m.q.q.q.1 t.1 t.2.1 t.2.2.1 t.2.2.2.1 t.2.2.2.2.1 t.q.1=some (n.1,n.2.1,n.2.2.1,n.2.2.2.1,n.2.2.2.2.1,n.q.1,n.q.2.1,n.q.2.2.1,n.q.2.2.2.1,n.q.2.2.2.2.1,n.q.q.1,n.q.q.2.1,n.q.q.2.2.1,n.q.q.2.2.2.1,n.q.q.2.2.2.2.1,n.q.q.q.1,said,nx.1,nx.2.1,nx.2.2.1,nx.2.2.2.1,nx.2.2.2.2.1,nx.q.1,true,()):=by
 have mS:=hm.id;have hW:=hm.small;have hw:=hW;unfold mP at hw;have hwl:t.q.1.length≤20:=ht.q.1;obtain ⟨k,t3,hN,q1,q2,q3,q4,q5,q6⟩:=RO t.1 t.2.1 t.2.2.1 t.2.2.2.1 t.2.2.2.2.1 t.q.1 m.1 m.2.2.2.2.1 m.q.1 (by omega) (by omega) mS ht;obtain ⟨o0,o1,o2,o3,o4,o5,o6,s1,s2,_⟩:=Nx t.1 t.2.1 t.2.2.1 t.2.2.2.1 t.2.2.2.2.1 t.q.1 m.1 m.2.2.2.2.1 m.q.1 (by omega);rw [hN] at s2;injection s2 with s2;simp only [Prod.mk.injEq] at s2;obtain ⟨rfl,rfl,rfl,rfl,rfl,rfl,rfl,_⟩:=s2;have hF:∀f∈de t.2.2.1 m.1 m.2.2.2.2.1 m.q.1 k,qV f:=G6 ⟨ht.2.2.1.1,q3⟩ mS q2 hm.short;have hFl:=py t.2.2.1 m.1 m.2.2.2.2.1 m.q.1 k;generalize hFF:de t.2.2.1 m.1 m.2.2.2.2.1 m.q.1 k=F at *;subst hFl;have hi:=vB F hm.items hF;have his:=di _ hi;have azX:=di _ hm.items;obtain ⟨a1,a2,_⟩:=Am (cZ m.2.2.2.1 F) (by omega);have axG:dJ m.2.2.2.1≤dJ (cZ m.2.2.2.1 F):=PW (by omega) (by omega) fun r hr=>⟨r,G5 F hr,rfl⟩
 obtain ⟨z0,z1,z2,z3,z4,z5,z6⟩:=ht;have hw2:Ah (t.2.2.1+((List.length F:Nat):Int)) t.q.1 t.q.1.length:=fun j hj OW=>by
  have:=z6 j hj OW;exact ⟨this.1,by omega,this.2.2⟩
 have ht3:0≤t3∧t3≤t.2.2.1+((List.length F:Nat):Int):=by
  have z3a:=z3.1;have z3b:=z3.2;have z2a:=z2.1;rcases q4 with e | e<;>rw [e]<;>omega
 have htq:Gf (t.1,t.2.1,t.2.2.1+((List.length F:Nat):Int),t3,t.2.2.2.2.1,t.q.1,()):=⟨z0,z1,⟨by show 0≤t.2.2.1+_;omega,q3⟩,ht3,z4,z5,hw2⟩;obtain ⟨u1,_,u3⟩:=Gg (t.1,t.2.1,t.2.2.1+((List.length F:Nat):Int),t3,t.2.2.2.2.1,t.q.1,()) (by show t.q.1.length≤_;omega);rw [u3.2 htq] at u1;obtain ⟨t3',t4',m1,m2,_,m4,m5⟩:=Zr t.1 t.2.1 (t.2.2.1+((List.length F:Nat):Int)) t3 t.2.2.2.2.1 t.q.1 m.1 ((dJ (cZ m.2.2.2.1 F):Nat):Int) (by omega) u1;have m4:=m4 rfl mS.1 mS.2 (by omega) htq.2.2.2.1.1 htq.2.2.2.1.2;have m5:=m5 rfl mS.1 mS.2 (by omega);obtain ⟨ms,l1,l2,l3,l4⟩:=PT (cZ m.2.2.2.1 F) (t.2.2.1+((List.length F:Nat):Int)) (by omega);have ls:=RR t.1 t.2.1 (t.2.2.1+((List.length F:Nat):Int)) t3' t4' t.q.1 (cZ m.2.2.2.1 F) ms (by omega) (by omega) l1 l3;have li:=RS t.1 t.2.1 (t.2.2.1+((List.length F:Nat):Int)) t3' t4' t.q.1 (cZ m.2.2.2.1 F) ms (by omega) (by omega) l2 l3 (fun s hs=>⟨(l4 s hs).1,(l4 s hs).2.1.1,(l4 s hs).2.2⟩);have hlw:Ah (t.2.2.1+((List.length F:Nat):Int)) (bK (nk (cZ m.2.2.2.1 F) t.q.1 ms)) (bK (nk (cZ m.2.2.2.1 F) t.q.1 ms)).length:=RW z6 (by omega) fun s hs=>⟨(l4 s hs).1,(l4 s hs).2.1.2⟩
 have hll:(bK (nk (cZ m.2.2.2.1 F) t.q.1 ms)).length≤20:=by
  rw [dZ];unfold nk;rw [List.length_take];omega
 have hlk:∀s∈cE (bK (nk (cZ m.2.2.2.1 F) t.q.1 ms)),hasB (cZ m.2.2.2.1 F) s=false:=by
  rw [tC];intro s hs;have h2:=(List.mem_filter.1 (List.mem_of_mem_take hs)).2;unfold jH at h2;rw [Bool.or_eq_true,Bool.and_eq_true,decide_eq_true_eq,decide_eq_true_eq] at h2;rcases h2 with ⟨h2,_⟩ | h2
  ·simpa using h2
  ·exact (l4 s h2).2.2
 generalize bK (nk (cZ m.2.2.2.1 F) t.q.1 ms)=W at *;have hrw:IntKind.i64.wrap (t.2.1+(1:Int))=t.2.1+1:=fj (by omega) (by omega);obtain ⟨c1,c2⟩:=kZ t.1 (t.2.1+1) (t.2.2.1+((List.length F:Nat):Int)) t3' t4' W (by omega);have KE:mP m≤1048576:=by omega
 obtain ⟨kb1,kb2,kb3⟩:=uO m KE;rw [kb3.2 hm] at kb1 kb2;obtain ⟨kt1,kt2,kt3⟩:=Gg t (by omega);rw [kt3.2 ⟨z0,z1,z2,z3,z4,z5,z6⟩] at kt1 kt2;obtain ⟨p1,p2⟩:=oU m.1 m.2.1 m.2.2.1 m.2.2.2.1 m.2.2.2.2.1 m.q.1 m.q.2.1 m.q.2.2.1 m.q.2.2.2.1 m.q.2.2.2.2.1 m.q.q.1 m.q.q.2.1 m.q.q.2.2.1 m.q.q.2.2.2.1 m.q.q.2.2.2.2.1 m.q.q.q.1 KE;obtain ⟨g1,g2⟩:=Zu t m.2.2.2.1 (by omega) (by omega);have hgl:=Zw t m.2.2.2.1;have htx:=hm.texts;generalize hLN:(if (if ((dJ (cZ m.2.2.2.1 F):Nat):Int)<(if t.2.2.2.1<m.q.2.2.1 then t.2.2.2.1 else m.q.2.2.1) then ((dJ (cZ m.2.2.2.1 F):Nat):Int) else (if t.2.2.2.1<m.q.2.2.1 then t.2.2.2.1 else m.q.2.2.1))>m.q.2.2.2.1 then (if ((dJ (cZ m.2.2.2.1 F):Nat):Int)<(if t.2.2.2.1<m.q.2.2.1 then t.2.2.2.1 else m.q.2.2.1) then ((dJ (cZ m.2.2.2.1 F):Nat):Int) else (if t.2.2.2.1<m.q.2.2.1 then t.2.2.2.1 else m.q.2.2.1)) else m.q.2.2.2.1)=line;have hle:m.q.2.2.2.1≤line:=by
  rw [←hLN]
  split<;>omega
 have RX:Gf (t.1,t.2.1+1,t.2.2.1+((List.length F:Nat):Int),t3',t4',W,()):=⟨z0,⟨by show 1≤t.2.1+1;omega,by show t.2.1+1≤1000000000;omega⟩,⟨by show 0≤t.2.2.1+_;have:=z2.1;omega,q3⟩,⟨m4.1,m4.2.1⟩,by
  have z4a:=z4.1;have z4b:=z4.2;show 0≤t4'∧t4'≤5;rcases m4.2.2.2.2 with e | e | ⟨e,_⟩<;>rw [e]<;>omega,hll,hlw⟩
 refine ⟨(m.1,m.2.1,m.2.2.1,cZ m.2.2.2.1 F,m.2.2.2.2.1.drop F.length,m.q.1.drop F.length,t.2.1,t.2.2.2.1,line,m.q.2.2.2.2.1,t.1,t.2.1+1,t.2.2.1+((List.length F:Nat):Int),t3',t4',W,()),qX t m.2.2.2.1++F,F.length,(t.1,t.2.1+1,t.2.2.1+((List.length F:Nat):Int),t3',t4',W,()),?_,?_,?_⟩
 ·have hn:ra (m.1,m.2.1,m.2.2.1,cZ m.2.2.2.1 F,m.2.2.2.2.1.drop F.length,m.q.1.drop F.length,t.2.1,t.2.2.2.1,line,m.q.2.2.2.2.1,t.1,t.2.1+1,t.2.2.1+((List.length F:Nat):Int),t3',t4',W,()):={
   ring:=hm.ring
   mem:=hm.mem
   items:=hi
   texts:=⟨by show (m.q.1.drop F.length).length≤20;rw [List.length_drop];omega,by show (m.2.2.2.2.1.drop F.length).length=(m.q.1.drop F.length).length;rw [List.length_drop,List.length_drop];omega⟩
   lev:=hm.lev.drop _
   short:=hm.short.drop _
   round:=⟨by show 0≤t.2.1;omega,by show t.2.1≤1000000000;omega⟩
   seen:=⟨z3.1,by show t.2.2.2.1≤60;have:=z3.2;omega⟩
   line:=by
    have hl:=hm.line;have hs:=hm.seen;have ha:=z3.1;show 0≤line∧line≤((dJ (cZ m.2.2.2.1 F):Nat):Int);rw [←hLN]
    split<;>split<;>(try split)<;>omega
   heard:=by
    have hl:=hm.heard;show 0≤m.q.2.2.2.2.1∧m.q.2.2.2.2.1≤((dJ (cZ m.2.2.2.1 F):Nat):Int);omega
   last:=.inr RX }
  have an4:F.length=min 3 m.q.1.length∨t.2.2.1+((F.length:Nat):Int)=60:=by
   rcases q5 with h | h | ⟨h,h'⟩
   ·exact .inl h
   ·exact .inr (by omega)
   ·have:=hm.short _ h h;omega
  have an5:line=m.q.2.2.2.1∨(line≤m.q.2.2.1∧line≤t.2.2.2.1∧line≤((dJ (cZ m.2.2.2.1 F):Nat):Int)):=by
   rw [←hLN]
   split<;>split<;>(try split)<;>omega
  have aiv:∀x:Int,x≤m.q.2.2.1→x≤t.2.2.2.1→x≤((dJ (cZ m.2.2.2.1 F):Nat):Int)→x≤line:=by
   rw [←hLN];intro x x1 x2 x3
   split<;>split<;>(try split)<;>omega
  exact { E8:=⟨q1,q2,q3⟩,said:=by rw [hFF],id:=⟨rfl,rfl,rfl⟩,items:=by rw [hFF],words:=⟨rfl,rfl⟩,round:=⟨rfl,rfl,hle,rfl⟩,last:=rfl,nq:=hn,tq:=RX,next:=⟨rfl,rfl,rfl⟩,yE:=an4,marks:=⟨m5.1.trans (by rw [q6]),m5.2.trans (by rw [q6])⟩,line:=an5,Tu:=hlk,reach:=aiv }
 ·unfold mf;delta ax aP aF bF dz
  try simp only [dv]
  simp only [aq hc,ak (show ¬t.2.1≤m.q.2.1 by omega),ak (show ¬(1000000000:Int)≤t.2.1 by omega),kb2,kt2,p2,g2,hN,Option.bind_some,Bool.not_true,cond_false,cond_true,au,aC,aq (show ((List.length F:Nat):Int)≤((List.length m.2.2.2.2.1:Nat):Int) by omega),aq (show ((List.length F:Nat):Int)≤((List.length m.q.1:Nat):Int) by omega)];rw [JS (hx:=hm.items) (hf:=hF) (hn:=by omega) ..];simp only [oA,a2,m2,li,hrw,c2,Option.bind_some,hLN];rw [aW (show ((qX t m.2.2.2.1).length+F.length)*40≤lim by unfold lim;omega)];rfl
 ·subst hLN;unfold lY;delta ax aP cM aF bF dz
  try simp only [dv]
  simp only [aq hc,ak (show ¬t.2.1≤m.q.2.1 by omega),ak (show ¬(1000000000:Int)≤t.2.1 by omega),kb1,kt1,p1,g1,s1,Option.bind_some,Bool.not_true,cond_false,cond_true,au,aC,aq (show ((List.length F:Nat):Int)≤((List.length m.2.2.2.2.1:Nat):Int) by omega),aq (show ((List.length F:Nat):Int)≤((List.length m.q.1:Nat):Int) by omega),
   aW (show (0+(qX t m.2.2.2.1).length)*40≤lim by unfold lim;omega),aW (show (0+(List.drop F.length m.2.2.2.2.1).length)*8≤lim by rw [List.length_drop];unfold lim;omega),aW (show (0+(List.drop F.length m.q.1).length)*16≤lim by rw [List.length_drop];unfold lim;omega),List.nil_append]
  rw [JT (hx:=hm.items) (hf:=hF) (hn:=by omega) ..];simp only [oA,a1,m1,Option.bind_some,aW (show ((qX t m.2.2.2.1).length+F.length)*40≤lim by unfold lim;omega),cond_true]
  by_cases h1:t.2.2.2.1<m.q.2.2.1
  ·rw [aq h1,if_pos h1];simp only [cond_true]
   by_cases h2:((dJ (cZ m.2.2.2.1 F):Nat):Int)<t.2.2.2.1
   ·rw [aq h2,if_pos h2];simp only [cond_true]
    by_cases h3:m.q.2.2.2.1<((dJ (cZ m.2.2.2.1 F):Nat):Int)
    ·rw [aq h3,if_pos (show ((dJ (cZ m.2.2.2.1 F):Nat):Int)>m.q.2.2.2.1 from h3)];simp only [cond_true,ls,hrw,c1,Option.bind_some]
    ·rw [ak h3,if_neg (show ¬((dJ (cZ m.2.2.2.1 F):Nat):Int)>m.q.2.2.2.1 from h3)];simp only [cond_false,ls,hrw,c1,Option.bind_some]
   ·rw [ak h2,if_neg h2];simp only [cond_false]
    by_cases h3:m.q.2.2.2.1<t.2.2.2.1
    ·rw [aq h3,if_pos (show t.2.2.2.1>m.q.2.2.2.1 from h3)];simp only [cond_true,ls,hrw,c1,Option.bind_some]
    ·rw [ak h3,if_neg (show ¬t.2.2.2.1>m.q.2.2.2.1 from h3)];simp only [cond_false,ls,hrw,c1,Option.bind_some]
  ·rw [ak h1,if_neg h1];simp only [cond_false]
   by_cases h2:((dJ (cZ m.2.2.2.1 F):Nat):Int)<m.q.2.2.1
   ·rw [aq h2,if_pos h2];simp only [cond_true]
    by_cases h3:m.q.2.2.2.1<((dJ (cZ m.2.2.2.1 F):Nat):Int)
    ·rw [aq h3,if_pos (show ((dJ (cZ m.2.2.2.1 F):Nat):Int)>m.q.2.2.2.1 from h3)];simp only [cond_true,ls,hrw,c1,Option.bind_some]
    ·rw [ak h3,if_neg (show ¬((dJ (cZ m.2.2.2.1 F):Nat):Int)>m.q.2.2.2.1 from h3)];simp only [cond_false,ls,hrw,c1,Option.bind_some]
   ·rw [ak h2,if_neg h2];simp only [cond_false]
    by_cases h3:m.q.2.2.2.1<m.q.2.2.1
    ·rw [aq h3,if_pos (show m.q.2.2.1>m.q.2.2.2.1 from h3)];simp only [cond_true,ls,hrw,c1,Option.bind_some]
    ·rw [ak h3,if_neg (show ¬m.q.2.2.1>m.q.2.2.2.1 from h3)];simp only [cond_false,ls,hrw,c1,Option.bind_some]
noncomputable def E9 (m:ia) (t:gN):Bool:=uN m&&(KN t&&(decide (t.1=m.2.1)&&(decide (m.q.2.1<t.2.1)&&decide (t.2.1<1000000000))))
theorem abw (m:ia) (t:gN) (h:mP m≤1048576) (hw:t.q.1.length≤1048576) (hn:E9 m t=false):mf m.1 m.2.1 m.2.2.1 m.2.2.2.1 m.2.2.2.2.1 m.q.1 m.q.2.1 m.q.2.2.1 m.q.2.2.2.1 m.q.2.2.2.2.1 m.q.q.1 m.q.q.2.1 m.q.q.2.2.1 m.q.q.2.2.2.1 m.q.q.2.2.2.2.1 m.q.q.q.1 t.1 t.2.1 t.2.2.1 t.2.2.2.1 t.2.2.2.2.1 t.q.1=some ((0:Int),(0:Int),[],[],[],[],(0:Int),(0:Int),(0:Int),(0:Int),(0:Int),(0:Int),(0:Int),(0:Int),(0:Int),[],[],(0:Int),(0:Int),(0:Int),(0:Int),(0:Int),(0:Int),[],false,())∧
  lY m.1 m.2.1 m.2.2.1 m.2.2.2.1 m.2.2.2.2.1 m.q.1 m.q.2.1 m.q.2.2.1 m.q.2.2.2.1 m.q.2.2.2.2.1 m.q.q.1 m.q.q.2.1 m.q.q.2.2.1 m.q.q.2.2.2.1 m.q.q.2.2.2.2.1 m.q.q.q.1 t.1 t.2.1 t.2.2.1 t.2.2.2.1 t.2.2.2.2.1 t.q.1=some (m.1,m.2.1,m.2.2.1,m.2.2.2.1,m.2.2.2.2.1,m.q.1,m.q.2.1,m.q.2.2.1,m.q.2.2.2.1,m.q.2.2.2.2.1,m.q.q.1,m.q.q.2.1,m.q.q.2.2.1,m.q.q.2.2.2.1,m.q.q.2.2.2.2.1,m.q.q.q.1,[],(0:Int),(0:Int),(0:Int),(0:Int),(0:Int),[],false,()):=by
 obtain ⟨k1,k2,_⟩:=uO m h;obtain ⟨t1,t2,_⟩:=Gg t hw;obtain ⟨p1,_⟩:=oU m.1 m.2.1 m.2.2.1 m.2.2.2.1 m.2.2.2.2.1 m.q.1 m.q.2.1 m.q.2.2.1 m.q.2.2.2.1 m.q.2.2.2.2.1 m.q.q.1 m.q.q.2.1 m.q.q.2.2.1 m.q.q.2.2.2.1 m.q.q.2.2.2.2.1 m.q.q.q.1 h;unfold E9 at hn
 constructor
 ·unfold mf;delta ax aP aF bF dz
  try simp only [dv]
  by_cases a1:t.1=m.2.1
  case neg=>rw [ak a1];rfl
  by_cases a2:m.q.2.1<t.2.1
  case neg=>rw [aq a1,aq (show t.2.1≤m.q.2.1 by omega)];rfl
  by_cases a3:t.2.1<1000000000
  case neg=>rw [aq a1,ak (show ¬t.2.1≤m.q.2.1 by omega),aq (show (1000000000:Int)≤t.2.1 by omega)];rfl
  rw [aq a1,aq a2,aq a3] at hn;rw [aq a1,ak (show ¬t.2.1≤m.q.2.1 by omega),ak (show ¬(1000000000:Int)≤t.2.1 by omega)];simp only [Bool.not_true,cond_false,k2,Option.bind_some]
  cases hb:uN m
  ·rfl
  ·rw [hb] at hn
   cases hc:KN t
   ·simp only [t2,hc,Bool.not_true,cond_false,Option.bind_some];rfl
   ·rw [hc] at hn;cases hn
 ·unfold lY;delta ax aP cM aF bF dz
  try simp only [dv]
  simp only [p1,k1,Option.bind_some]
  cases hb:uN m
  ·rfl
  simp only [Bool.not_true,cond_false,t1,Option.bind_some]
  cases hc:KN t
  ·rfl
  by_cases a1:t.1=m.2.1
  case neg=>rw [ak a1];rfl
  by_cases a2:m.q.2.1<t.2.1
  case neg=>rw [aq a1,aq (show t.2.1≤m.q.2.1 by omega)];rfl
  by_cases a3:t.2.1<1000000000
  case neg=>rw [aq a1,ak (show ¬t.2.1≤m.q.2.1 by omega),aq (show (1000000000:Int)≤t.2.1 by omega)];rfl
  rw [aq a1,aq a2,aq a3,hb,hc] at hn
  cases hn
end Go.TM
set_option linter.unusedSimpArgs false
set_option linter.unusedVariables false
namespace Go.TM
open Go
theorem abx {m:ia} (hm:ra m) {level:Int} {text:ByteArray} (hl:1≤level∧level≤2) (ht:ByteArray.size text≤60) (hn:m.q.1.length<20):ra (To m level text):={
 ring:=hm.ring
 mem:=hm.mem
 items:=hm.items
 texts:=⟨by show (m.q.1++[(text,())]).length≤20;simp;omega,by show (m.2.2.2.2.1++[(level,())]).length=(m.q.1++[(text,())]).length;have:=hm.texts.2;simp;omega⟩
 lev:=fun j hj _=>by
  have hj:j<(m.2.2.2.2.1++[(level,())]).length:=hj;show (decide (1≤(m.2.2.2.2.1++[(level,())])[j].1)&&decide ((m.2.2.2.2.1++[(level,())])[j].1≤2))=true
  by_cases h:j<m.2.2.2.2.1.length
  ·rw [List.getElem_append_left h];exact hm.lev j h h
  ·have:j=m.2.2.2.2.1.length:=by simp at hj;omega
   subst this;simp [hl.1,hl.2]
 short:=fun j hj _=>by
  have hj:j<(m.q.1++[(text,())]).length:=hj;show ByteArray.size (m.q.1++[(text,())])[j].1≤60
  by_cases h:j<m.q.1.length
  ·rw [List.getElem_append_left h];exact hm.short j h h
  ·have:j=m.q.1.length:=by simp at hj;omega
   subst this;simpa using ht
 round:=hm.round
 seen:=hm.seen
 line:=hm.line
 heard:=hm.heard
 last:=hm.last }
theorem NC {c2 d:Int} {lv:cG} {tx:List (ByteArray×Unit)} {m k:Nat} (hk:k<(de c2 d lv tx m).length):(de c2 d lv tx m)[k]=CH c2 d lv tx k:=by
 simp [de]
theorem Fa {c2 d:Int} {lv:cG} {tx:List (ByteArray×Unit)} {m:Nat} {f:ez} (hf:f∈de c2 d lv tx m):∃k,k<m∧f=CH c2 d lv tx k:=by
 obtain ⟨k,hk,rfl⟩:=List.mem_iff_getElem.1 hf;rw [py] at hk;exact ⟨k,hk,NC _⟩
def vR (m:ia) (v:Int):ia:=(m.1,m.2.1,m.2.2.1,m.2.2.2.1,m.2.2.2.2.1,m.q.1,m.q.2.1,m.q.2.2.1,m.q.2.2.2.1,v,m.q.2.2.2.2.2)
theorem aby {m:ia} (hm:ra m):∃(k:Nat) (n:ia),n=vR m (m.q.2.2.2.2.1+((k:Nat):Int))∧qS m.1 m.2.1 m.2.2.1 m.2.2.2.1 m.2.2.2.2.1 m.q.1 m.q.2.1 m.q.2.2.1 m.q.2.2.2.1 m.q.2.2.2.2.1 m.q.q.1 m.q.q.2.1 m.q.q.2.2.1 m.q.q.2.2.2.1 m.q.q.2.2.2.2.1 m.q.q.q.1=some (n.1,n.2.1,n.2.2.1,n.2.2.2.1,n.2.2.2.2.1,n.q.1,n.q.2.1,n.q.2.2.1,n.q.2.2.2.1,n.q.2.2.2.2.1,n.q.q.1,n.q.q.2.1,n.q.q.2.2.1,n.q.q.2.2.2.1,n.q.q.2.2.2.2.1,n.q.q.q.1,iJ m.2.2.2.1 m.q.2.2.2.2.1 k,())∧ph m.1 m.2.1 m.2.2.1 m.2.2.2.1 m.2.2.2.2.1 m.q.1 m.q.2.1 m.q.2.2.1 m.q.2.2.2.1 m.q.2.2.2.2.1 m.q.q.1 m.q.q.2.1 m.q.q.2.2.1 m.q.q.2.2.2.1 m.q.q.2.2.2.2.1 m.q.q.q.1=some (n.1,n.2.1,n.2.2.1,n.2.2.2.1,n.2.2.2.2.1,n.q.1,n.q.2.1,n.q.2.2.1,n.q.2.2.2.1,n.q.2.2.2.2.1,n.q.q.1,n.q.q.2.1,n.q.q.2.2.1,n.q.q.2.2.2.1,n.q.q.2.2.2.2.1,n.q.q.q.1,iJ m.2.2.2.1 m.q.2.2.2.2.1 k,())∧ra n∧
  m.q.2.2.2.2.1+((k:Nat):Int)≤((dJ m.2.2.2.1:Nat):Int)∧(∀j,j<k→¬Ce m.2.2.2.1 m.q.2.2.2.1 (m.q.2.2.2.2.1+((j+1:Nat):Int)))∧(m.q.2.2.2.2.1+((k:Nat):Int)<((dJ m.2.2.2.1:Nat):Int)→Ce m.2.2.2.1 m.q.2.2.2.1 (m.q.2.2.2.2.1+((k+1:Nat):Int))):=by
 have hw:=hm.small;have hb:=(uO m (Nat.le_trans hw (by decide))).2.2.2 hm;obtain ⟨k,v,h1,h2,h3,_,h5⟩:=PR m (Nat.le_trans hw (by decide));subst h3;obtain ⟨g1,g2,g3⟩:=h5 hb;have hh:=hm.heard;exact ⟨k,_,rfl,h2,h1,{ ring:=hm.ring,mem:=hm.mem,items:=hm.items,texts:=hm.texts,lev:=hm.lev,short:=hm.short,round:=hm.round,seen:=hm.seen,line:=hm.line,heard:=⟨by show 0≤m.q.2.2.2.2.1+((k:Nat):Int);omega,g1⟩,last:=hm.last },g1,g2,g3⟩
end Go.TM
set_option linter.unusedSimpArgs false
set_option linter.unusedVariables false
namespace Go.TM
open Go
theorem ND (c:Int) (xs:List (Int×Unit)) (id:Int) (h:xs.length≤1048576) (hr:eg c xs=some (true,())) (hm:(id,())∈xs):gn id c xs=some (id,c,xs,[],[],[],0,0,0,0,0,0,0,0,0,[],true,()):=by
 unfold gn;simp only [hr,Ai _ _ h,aq hm,Option.bind_some,Bool.not_true,cond_false,aW (show (0+xs.length)*8≤lim by unfold lim;omega),cond_true,List.nil_append]
theorem NF (c:Int) (xs:List (Int×Unit)) (id:Int) (h:xs.length≤1048576) (hr:fU c xs=some (true,())) (hm:(id,())∈xs):jB id c xs=some (id,c,xs,[],[],[],0,0,0,0,0,0,0,0,0,[],true,()):=by
 unfold jB bN;simp only [hr,Hy _ _ h,aq hm,Option.bind_some,Bool.not_true,cond_false,kJ xs h]
theorem map_take {α β:Type} (f:α→β) (xs:List α) {k:Nat} (hk:k<xs.length):(xs.take (k+1)).map f=(xs.take k).map f++[f xs[k]]:=by
 rw [List.take_succ_eq_append_getElem hk,List.map_append];rfl
end Go.TM
set_option linter.unusedSimpArgs false
set_option linter.unusedVariables false
namespace Go.TM
open Go
theorem Fb (xs:List eC) (h:jF xs):gZ xs=some (xs,()):=by
 have Wk:=h.len;have hl:=bP (round:=cX) (e:=.inl (xs,())) xs.length (fun k=>(xs,xs.take k,((k:Nat):Int),())) (by
  simp only [cX,gU,ax,aF,aJ,cond_false,List.take_length]) (fun k hk=>by
  simp only [cX,gU,ax,aF,aD hk,au,cond_true,aC,List.getElem?_eq_getElem hk,Option.bind_some,(jG xs[k] (h.at hk)).1,List.length_take,Nat.min_eq_left (Nat.le_of_lt hk),aW (show (k+1)*48≤lim by unfold lim;omega),aH (show k<4611686018427387904 by omega)];rw [List.take_succ_eq_append_getElem hk])
 have hl:aI cX (xs,[],(0:Int),())=_:=hl;unfold gZ;rw [hl];rfl
theorem PX (xs:List EvR) {k:Nat} (hk:k<xs.length) (h:xs.length+wl bD xs≤4194304):xs[k].2.2.1.length≤4194304∧xs[k].q.2.2.1.length≤4194304:=by
 have hw:=FK bD xs xs[k] (List.getElem_mem hk);have:bD xs[k]=(List.length xs[k].2.2.1+wl kY xs[k].2.2.1)+ByteArray.size xs[k].q.2.1+(List.length xs[k].q.2.2.1+wl kY xs[k].q.2.2.1):=rfl;omega
theorem Gm (xs:List EvR) (h:xs.length+wl bD xs≤4194304):gv xs=some (xs,()):=by
 have hl:=bP (round:=dg) (e:=.inl (xs,())) xs.length (fun k=>(xs,xs.take k,((k:Nat):Int),())) (by
  simp only [dg,iA,aF,aJ,cond_false,List.take_length]) (fun k hk=>by
  obtain ⟨e1,e2⟩:=PX xs hk h;simp only [dg,iA,aF,aD hk,au,cond_true,aC,List.getElem?_eq_getElem hk,Option.bind_some,List.length_take,Nat.min_eq_left (Nat.le_of_lt hk),aW (show (0+xs[k].2.2.1.length)*8≤lim by unfold lim;omega),aW (show (0+xs[k].q.2.2.1.length)*8≤lim by unfold lim;omega),aW (show (k+1)*104≤lim by unfold lim;omega),aH (show k<4611686018427387904 by omega),List.nil_append];rw [List.take_succ_eq_append_getElem hk])
 have hl:aI dg (xs,[],(0:Int),())=_:=hl;unfold gv;rw [hl];rfl
theorem PY (d:bQ) (h1:mP (az d)≤1048576) (h2:d.q.q.q.q.2.1.length≤1048576) (h3:jF d.q.q.q.q.2.2.1) (h4:d.q.q.q.q.2.2.2.1.length+wl bD d.q.q.q.q.2.2.2.1≤4194304):cI d.1 d.2.1 d.2.2.1 d.2.2.2.1 d.2.2.2.2.1 d.q.1 d.q.2.1 d.q.2.2.1 d.q.2.2.2.1 d.q.2.2.2.2.1 d.q.q.1 d.q.q.2.1 d.q.q.2.2.1 d.q.q.2.2.2.1 d.q.q.2.2.2.2.1 d.q.q.q.1 d.q.q.q.2.1 d.q.q.q.2.2.1 d.q.q.q.2.2.2.1 d.q.q.q.2.2.2.2.1 d.q.q.q.q.1 d.q.q.q.q.2.1 d.q.q.q.q.2.2.1 d.q.q.q.q.2.2.2.1=some d:=by
 have p:gT d.2.2.1 d.2.2.2.1 d.2.2.2.2.1 d.q.1 d.q.2.1 d.q.2.2.1 d.q.2.2.2.1 d.q.2.2.2.2.1 d.q.q.1 d.q.q.2.1 d.q.q.2.2.1 d.q.q.2.2.2.1 d.q.q.2.2.2.2.1 d.q.q.q.1 d.q.q.q.2.1 d.q.q.q.2.2.1=some (d.2.2.1,d.2.2.2.1,d.2.2.2.2.1,d.q.1,d.q.2.1,d.q.2.2.1,d.q.2.2.2.1,d.q.2.2.2.2.1,d.q.q.1,d.q.q.2.1,d.q.q.2.2.1,d.q.q.2.2.2.1,d.q.q.2.2.2.2.1,d.q.q.q.1,d.q.q.q.2.1,d.q.q.q.2.2.1,())∧gg d.2.2.1 d.2.2.2.1 d.2.2.2.2.1 d.q.1 d.q.2.1 d.q.2.2.1 d.q.2.2.2.1 d.q.2.2.2.2.1 d.q.q.1 d.q.q.2.1 d.q.q.2.2.1 d.q.q.2.2.2.1 d.q.q.2.2.2.2.1 d.q.q.q.1 d.q.q.q.2.1 d.q.q.q.2.2.1=some (d.2.2.1,d.2.2.2.1,d.2.2.2.2.1,d.q.1,d.q.2.1,d.q.2.2.1,d.q.2.2.2.1,d.q.2.2.2.2.1,d.q.q.1,d.q.q.2.1,d.q.q.2.2.1,d.q.q.2.2.2.1,d.q.q.2.2.2.2.1,d.q.q.q.1,d.q.q.q.2.1,d.q.q.q.2.2.1,()):=oU d.2.2.1 d.2.2.2.1 d.2.2.2.2.1 d.q.1 d.q.2.1 d.q.2.2.1 d.q.2.2.2.1 d.q.2.2.2.2.1 d.q.q.1 d.q.q.2.1 d.q.q.2.2.1 d.q.q.2.2.2.1 d.q.q.2.2.2.2.1 d.q.q.q.1 d.q.q.q.2.1 d.q.q.q.2.2.1 h1;unfold cI;delta cM;simp only [p.1,Fb d.q.q.q.q.2.2.1 h3,Gm d.q.q.q.q.2.2.2.1 h4,Option.bind_some,aW (show (0+(d.q.q.q.q.2.1).length)*8≤lim by unfold lim;omega),cond_true,List.nil_append]
noncomputable def Cg (d:bQ):List sf:=[(2,d.2.2.2.1,d.2.2.2.2.1,0,0,0,ByteArray.empty,fw d.q.q.q.q.2.2.1 d.q.q.q.q.1 d.q.q.q.q.2.1 d.1,())]++eA d.2.2.2.1 d.2.2.2.2.1 (uV d.q.q.q.q.2.2.1 d.q.q.q.q.1 d.q.q.q.q.2.1 d.1 d.q.q.2.1)
noncomputable def yH (d:bQ):List sf:=bif decide (0<d.q.q.q.2.2.2.2.1) then d.q.q.q.q.2.2.2.1++Cg d else d.q.q.q.q.2.2.2.1
noncomputable def fm (d:bQ):bQ:=(d.1,d.2.1,d.1,d.q.q.q.q.1,d.q.q.q.q.2.1,[],d.q.2.1,d.q.2.2.1,0,0,0,0,0,0,0,0,0,[],d.q.q.q.2.2.2.1,d.q.q.q.q.1,0,[],[],yH d++[(3,d.q.q.q.q.1,d.q.q.q.q.2.1,0,0,0,ByteArray.empty,d.q.q.q.q.2.1,())],())
def JU (d:bQ):List sf:=d.q.q.q.q.2.2.2.1
def qp (d:bQ) (l:List sf):bQ:=(d.1,d.2.1,d.2.2.1,d.2.2.2.1,d.2.2.2.2.1,d.q.1,d.q.2.1,d.q.2.2.1,d.q.2.2.2.1,d.q.2.2.2.2.1,d.q.q.1,d.q.q.2.1,d.q.q.2.2.1,d.q.q.2.2.2.1,d.q.q.2.2.2.2.1,d.q.q.q.1,d.q.q.q.2.1,d.q.q.q.2.2.1,d.q.q.q.2.2.2.1,d.q.q.q.2.2.2.2.1,d.q.q.q.q.1,d.q.q.q.q.2.1,d.q.q.q.q.2.2.1,l,())
theorem NG (d:bQ) (c:Int) (ms:cG) (l:aZ) (hr:ms.length≤1048576) (hl:l.length≤1048576) (hg:d.q.q.q.q.2.2.2.1.length≤1048577):aI eM (d.1,d.2.1,d.2.2.1,d.2.2.2.1,d.2.2.2.2.1,d.q.1,d.q.2.1,d.q.2.2.1,d.q.2.2.2.1,d.q.2.2.2.2.1,d.q.q.1,d.q.q.2.1,d.q.q.2.2.1,d.q.q.2.2.2.1,d.q.q.2.2.2.2.1,d.q.q.q.1,d.q.q.q.2.1,d.q.q.q.2.2.1,d.q.q.q.2.2.2.1,d.q.q.q.2.2.2.2.1,d.q.q.q.q.1,d.q.q.q.q.2.1,d.q.q.q.q.2.2.1,d.q.q.q.q.2.2.2.1,c,ms,l,(0:Int),())=some (.inl (qp d (d.q.q.q.q.2.2.2.1++eA c ms l))):=by
 have l1:=bP (round:=eM) (e:=.inl (qp d (d.q.q.q.q.2.2.2.1++eA c ms l))) l.length (fun k=>(d.1,d.2.1,d.2.2.1,d.2.2.2.1,d.2.2.2.2.1,d.q.1,d.q.2.1,d.q.2.2.1,d.q.2.2.2.1,d.q.2.2.2.2.1,d.q.q.1,d.q.q.2.1,d.q.q.2.2.1,d.q.q.2.2.2.1,d.q.q.2.2.2.2.1,d.q.q.q.1,d.q.q.q.2.1,d.q.q.q.2.2.1,d.q.q.q.2.2.2.1,d.q.q.q.2.2.2.2.1,d.q.q.q.q.1,d.q.q.q.q.2.1,d.q.q.q.q.2.2.1,d.q.q.q.q.2.2.2.1++eA c ms (l.take k),c,ms,l,((k:Nat):Int),())) (by
  simp only [eM,aA,ax,qB,aF,aJ,cond_false,List.take_length,qp]) (fun k hk=>by
  have hlen:(d.q.q.q.q.2.2.2.1++eA c ms (l.take k)).length≤1048577+1048576:=by
   rw [List.length_append,nD,List.length_take];omega
  simp only [eM,aA,ax,qB,aF,aD hk,au,cond_true,aC,cw hk,List.getElem?_eq_getElem hk,Option.bind_some,nE _ _ hr,aW (show ((d.q.q.q.q.2.2.2.1++eA c ms (l.take k)).length+1)*104≤lim by unfold lim;omega),aH (show k<4611686018427387904 by omega)];rw [E6 hk])
 have l1:aI eM (d.1,d.2.1,d.2.2.1,d.2.2.2.1,d.2.2.2.2.1,d.q.1,d.q.2.1,d.q.2.2.1,d.q.2.2.2.1,d.q.2.2.2.2.1,d.q.q.1,d.q.q.2.1,d.q.q.2.2.1,d.q.q.2.2.2.1,d.q.q.2.2.2.2.1,d.q.q.q.1,d.q.q.q.2.1,d.q.q.q.2.2.1,d.q.q.q.2.2.2.1,d.q.q.q.2.2.2.2.1,d.q.q.q.q.1,d.q.q.q.q.2.1,d.q.q.q.q.2.2.1,d.q.q.q.q.2.2.2.1++eA c ms (l.take 0),c,ms,l,(0:Int),())=_:=l1;rw [show eA c ms (l.take 0)=[] from rfl,List.append_nil] at l1;exact l1
theorem VV (d:bQ) (l:aZ) (hr:d.2.2.2.2.1.length≤1048576) (hl:l.length≤1048576) (hg:d.q.q.q.q.2.2.2.1.length≤1048577):jU d.1 d.2.1 d.2.2.1 d.2.2.2.1 d.2.2.2.2.1 d.q.1 d.q.2.1 d.q.2.2.1 d.q.2.2.2.1 d.q.2.2.2.2.1 d.q.q.1 d.q.q.2.1 d.q.q.2.2.1 d.q.q.2.2.2.1 d.q.q.2.2.2.2.1 d.q.q.q.1 d.q.q.q.2.1 d.q.q.q.2.2.1 d.q.q.q.2.2.2.1 d.q.q.q.2.2.2.2.1 d.q.q.q.q.1 d.q.q.q.q.2.1 d.q.q.q.q.2.2.1 d.q.q.q.q.2.2.2.1 l=some (qp d (d.q.q.q.q.2.2.2.1++eA d.2.2.2.1 d.2.2.2.2.1 l)):=by
 have l1:=bP (round:=hM) (e:=.inl (qp d (d.q.q.q.q.2.2.2.1++eA d.2.2.2.1 d.2.2.2.2.1 l))) l.length (fun k=>(d.1,d.2.1,d.2.2.1,d.2.2.2.1,d.2.2.2.2.1,d.q.1,d.q.2.1,d.q.2.2.1,d.q.2.2.2.1,d.q.2.2.2.2.1,d.q.q.1,d.q.q.2.1,d.q.q.2.2.1,d.q.q.2.2.2.1,d.q.q.2.2.2.2.1,d.q.q.q.1,d.q.q.q.2.1,d.q.q.q.2.2.1,d.q.q.q.2.2.2.1,d.q.q.q.2.2.2.2.1,d.q.q.q.q.1,d.q.q.q.q.2.1,d.q.q.q.q.2.2.1,d.q.q.q.q.2.2.2.1++eA d.2.2.2.1 d.2.2.2.2.1 (l.take k),l,((List.length l:Nat):Int),((k:Nat):Int),())) (by
  simp only [hM,aA,pQ,aF,aJ,cond_false,List.take_length,qp]) (fun k hk=>by
  have hlen:(d.q.q.q.q.2.2.2.1++eA d.2.2.2.1 d.2.2.2.2.1 (l.take k)).length≤1048577+1048576:=by
   rw [List.length_append,nD,List.length_take];omega
  simp only [hM,aA,pQ,aF,aD hk,au,cond_true,aC,List.getElem?_eq_getElem hk,Option.bind_some,lB _ _ hr,aW (show ((d.q.q.q.q.2.2.2.1++eA d.2.2.2.1 d.2.2.2.2.1 (l.take k)).length+1)*104≤lim by unfold lim;omega),aH (show k<4611686018427387904 by omega)];rw [E6 hk])
 have l1:aI hM (d.1,d.2.1,d.2.2.1,d.2.2.2.1,d.2.2.2.2.1,d.q.1,d.q.2.1,d.q.2.2.1,d.q.2.2.2.1,d.q.2.2.2.2.1,d.q.q.1,d.q.q.2.1,d.q.q.2.2.1,d.q.q.2.2.2.1,d.q.q.2.2.2.2.1,d.q.q.q.1,d.q.q.q.2.1,d.q.q.q.2.2.1,d.q.q.q.2.2.2.1,d.q.q.q.2.2.2.2.1,d.q.q.q.q.1,d.q.q.q.q.2.1,d.q.q.q.q.2.2.1,d.q.q.q.q.2.2.2.1++eA d.2.2.2.1 d.2.2.2.2.1 (l.take 0),l,((List.length l:Nat):Int),(0:Int),())=_:=l1;rw [show eA d.2.2.2.1 d.2.2.2.2.1 (l.take 0)=[] from rfl,List.append_nil] at l1;unfold jU;rw [l1];rfl
theorem Gn (xs:List eC) (c:Int) (ms:cG) (id heard:Int) (h:jF xs):(uV xs c ms id heard).length≤60∧wl ec (uV xs c ms id heard)≤3600:=RM xs c ms id heard h
theorem vC (d:bQ) (hr:oV d.q.q.q.q.1 d.q.q.q.q.2.1) (hm:(d.1,())∈d.q.q.q.q.2.1) (h3:jF d.q.q.q.q.2.2.1) (h4:d.2.2.2.2.1.length≤1048576) (hg:d.q.q.q.q.2.2.2.1.length≤1048576):eV d.1 d.2.1 d.2.2.1 d.2.2.2.1 d.2.2.2.2.1 d.q.1 d.q.2.1 d.q.2.2.1 d.q.2.2.2.1 d.q.2.2.2.2.1 d.q.q.1 d.q.q.2.1 d.q.q.2.2.1 d.q.q.2.2.2.1 d.q.q.2.2.2.2.1 d.q.q.q.1 d.q.q.q.2.1 d.q.q.q.2.2.1 d.q.q.q.2.2.2.1 d.q.q.q.2.2.2.2.1 d.q.q.q.q.1 d.q.q.q.q.2.1 d.q.q.q.q.2.2.1 d.q.q.q.q.2.2.2.1=some (fm d)∧dk d.1 d.2.1 d.2.2.1 d.2.2.2.1 d.2.2.2.2.1 d.q.1 d.q.2.1 d.q.2.2.1 d.q.2.2.2.1 d.q.2.2.2.2.1 d.q.q.1 d.q.q.2.1 d.q.q.2.2.1 d.q.q.2.2.2.1 d.q.q.2.2.2.2.1 d.q.q.q.1 d.q.q.q.2.1 d.q.q.q.2.2.1 d.q.q.q.2.2.2.1 d.q.q.q.2.2.2.2.1 d.q.q.q.q.1 d.q.q.q.q.2.1 d.q.q.q.q.2.2.1 d.q.q.q.q.2.2.2.1=some (fm d):=by
 have h5:=hr.2.1.2;have h5:d.q.q.q.q.2.1.length≤1048576:=by omega
 obtain ⟨q1,q2,q3⟩:=qo d.q.q.q.q.1 d.q.q.q.q.2.1 h5;rw [q3.2 hr] at q1 q2;have m1:=ND d.q.q.q.q.1 d.q.q.q.q.2.1 d.1 h5 q1 hm;have m2:=NF d.q.q.q.q.1 d.q.q.q.q.2.1 d.1 h5 q2 hm;obtain ⟨t1,t2,t3⟩:=tz d.q.q.q.q.1 d.q.q.q.q.2.1 d.q.q.q.q.2.2.1 d.1 h5 h3;obtain ⟨r1,r2⟩:=VQ d.q.q.q.q.1 d.q.q.q.q.2.1 d.q.q.q.q.2.2.1 d.1 d.q.q.2.1 h5 h3;obtain ⟨z1,z2⟩:=Gn d.q.q.q.q.2.2.1 d.q.q.q.q.1 d.q.q.q.q.2.1 d.1 d.q.q.2.1 h3;have c1:=kJ d.q.q.q.q.2.1 h5;have c2:=lB d.q.q.q.q.1 d.q.q.q.q.2.1 h5;have c3:=nE d.q.q.q.q.1 d.q.q.q.q.2.1 h5;have c4:=lB d.2.2.2.1 d.2.2.2.2.1 h4;have c5:=nE d.2.2.2.1 d.2.2.2.2.1 h4;generalize ic:uV d.q.q.q.q.2.2.1 d.q.q.q.q.1 d.q.q.q.q.2.1 d.1 d.q.q.2.1=rest at *;generalize an6:fw d.q.q.q.q.2.2.1 d.q.q.q.q.1 d.q.q.q.q.2.1 d.1=C8 at *;have hlen:(d.q.q.q.q.2.2.2.1++[((2,d.2.2.2.1,d.2.2.2.2.1,0,0,0,ByteArray.empty,C8,()):sf)]).length≤1048577:=by rw [List.length_append,List.length_singleton];omega
 have i1:=NG (qp d (d.q.q.q.q.2.2.2.1++[(2,d.2.2.2.1,d.2.2.2.2.1,0,0,0,ByteArray.empty,C8,())])) d.2.2.2.1 d.2.2.2.2.1 rest h4 (by omega) hlen;have i2:=VV (qp d (d.q.q.q.q.2.2.2.1++[(2,d.2.2.2.1,d.2.2.2.2.1,0,0,0,ByteArray.empty,C8,())])) rest h4 (by omega) hlen;have i1:aI eM (d.1,d.2.1,d.2.2.1,d.2.2.2.1,d.2.2.2.2.1,d.q.1,d.q.2.1,d.q.2.2.1,d.q.2.2.2.1,d.q.2.2.2.2.1,d.q.q.1,d.q.q.2.1,d.q.q.2.2.1,d.q.q.2.2.2.1,d.q.q.2.2.2.2.1,d.q.q.q.1,d.q.q.q.2.1,d.q.q.q.2.2.1,d.q.q.q.2.2.2.1,d.q.q.q.2.2.2.2.1,d.q.q.q.q.1,d.q.q.q.q.2.1,d.q.q.q.q.2.2.1,d.q.q.q.q.2.2.2.1++[(2,d.2.2.2.1,d.2.2.2.2.1,0,0,0,ByteArray.empty,C8,())],d.2.2.2.1,d.2.2.2.2.1,rest,(0:Int),())=some (.inl (qp d ((d.q.q.q.q.2.2.2.1++[(2,d.2.2.2.1,d.2.2.2.2.1,0,0,0,ByteArray.empty,C8,())])++eA d.2.2.2.1 d.2.2.2.2.1 rest))):=i1;have i2:jU d.1 d.2.1 d.2.2.1 d.2.2.2.1 d.2.2.2.2.1 d.q.1 d.q.2.1 d.q.2.2.1 d.q.2.2.2.1 d.q.2.2.2.2.1 d.q.q.1 d.q.q.2.1 d.q.q.2.2.1 d.q.q.2.2.2.1 d.q.q.2.2.2.2.1 d.q.q.q.1 d.q.q.q.2.1 d.q.q.q.2.2.1 d.q.q.q.2.2.2.1 d.q.q.q.2.2.2.2.1 d.q.q.q.q.1 d.q.q.q.q.2.1 d.q.q.q.q.2.2.1 (d.q.q.q.q.2.2.2.1++[(2,d.2.2.2.1,d.2.2.2.2.1,0,0,0,ByteArray.empty,C8,())]) rest=some (qp d ((d.q.q.q.q.2.2.2.1++[(2,d.2.2.2.1,d.2.2.2.2.1,0,0,0,ByteArray.empty,C8,())])++eA d.2.2.2.1 d.2.2.2.2.1 rest)):=i2;have Ws:Nat.ble ((d.q.q.q.q.2.2.2.1.length+1)*104) lim=true:=aW (by unfold lim;omega);have Ie:Nat.ble ((((d.q.q.q.q.2.2.2.1++[((2,d.2.2.2.1,d.2.2.2.2.1,0,0,0,ByteArray.empty,C8,()):sf)])++eA d.2.2.2.1 d.2.2.2.2.1 rest).length+1)*104) lim=true:=aW (by rw [List.length_append,nD];unfold lim;omega);have hb3:Nat.ble ((0+d.q.q.q.q.2.1.length)*8) lim=true:=aW (by unfold lim;omega);unfold fm yH Cg;rw [ic,an6]
 by_cases ho:0<d.q.q.q.2.2.2.2.1
 ·constructor
  ·unfold eV;delta aF dz;simp only [aq ho,cond_true,c5,t1,Ws,r1,i1,bU,Option.bind_some,qp,c3,hb3,Ie,m1,List.nil_append];simp only [List.append_assoc]
  ·unfold dk;delta aF dz;simp only [aq ho,cond_true,c4,t2,Ws,r2,i2,Option.bind_some,qp,c2,c1,Ie,m2];simp only [List.append_assoc]
 ·constructor
  ·unfold eV;delta aF dz;simp only [ak ho,cond_false,cond_true,c3,Ws,hb3,m1,Option.bind_some,List.nil_append]
  ·unfold dk;delta aF dz;simp only [ak ho,cond_false,cond_true,c2,c1,Ws,m2,Option.bind_some]
theorem NH (d:bQ) (hr:d.q.q.q.q.2.1.length≤5) (h4:d.2.2.2.2.1.length≤5) (h3:jF d.q.q.q.q.2.2.1) (h6:d.q.2.1.length≤1048576) (h7:d.q.2.2.1.length+wl KM d.q.2.2.1≤1048576) (hg:d.q.q.q.q.2.2.2.1.length+wl bD d.q.q.q.q.2.2.2.1≤1048576) :
  mP (az (fm d))≤2097157∧(JU (fm d)).length+wl bD (JU (fm d))≤1060000:=by
 obtain ⟨z1,z2⟩:=Gn d.q.q.q.q.2.2.1 d.q.q.q.q.1 d.q.q.q.q.2.1 d.1 d.q.q.2.1 h3;obtain ⟨_,_,t3⟩:=tz d.q.q.q.q.1 d.q.q.q.q.2.1 d.q.q.q.q.2.2.1 d.1 (by omega) h3;have w0:∀l:cG,wl kY l=0:=fun l=>qh kY (fun _=>rfl) l
 constructor
 ·have e:mP (az (fm d))=(List.length d.q.q.q.q.2.1+wl kY d.q.q.q.q.2.1)+0+(List.length d.q.2.1+wl kY d.q.2.1)+(List.length d.q.2.2.1+wl KM d.q.2.2.1)+0:=rfl;rw [e,w0,w0];omega
 ·have e:JU (fm d)=yH d++[(3,d.q.q.q.q.1,d.q.q.q.q.2.1,0,0,0,ByteArray.empty,d.q.q.q.q.2.1,())]:=rfl;have e1:bD ((3,d.q.q.q.q.1,d.q.q.q.q.2.1,0,0,0,ByteArray.empty,d.q.q.q.q.2.1,()):sf)=(d.q.q.q.q.2.1.length+wl kY d.q.q.q.q.2.1)+0+(d.q.q.q.q.2.1.length+wl kY d.q.q.q.q.2.1):=rfl;have e2:bD ((2,d.2.2.2.1,d.2.2.2.2.1,0,0,0,ByteArray.empty,fw d.q.q.q.q.2.2.1 d.q.q.q.q.1 d.q.q.q.q.2.1 d.1,()):sf)=(d.2.2.2.2.1.length+wl kY d.2.2.2.2.1)+0+((fw d.q.q.q.q.2.2.1 d.q.q.q.q.1 d.q.q.q.q.2.1 d.1).length+wl kY (fw d.q.q.q.q.2.2.1 d.q.q.q.q.1 d.q.q.q.q.2.1 d.1)):=rfl;have e3:(yH d).length+wl bD (yH d)≤1048576+8000:=by
   unfold yH
   cases decide (0<d.q.q.q.2.2.2.2.1)
   ·show d.q.q.q.q.2.2.2.1.length+wl bD d.q.q.q.q.2.2.2.1≤_;omega
   ·show (d.q.q.q.q.2.2.2.1++Cg d).length+wl bD (d.q.q.q.q.2.2.2.1++Cg d)≤_;unfold Cg;rw [IA,IA,Tq,List.length_append,List.length_append,nD,tf,MO,e2,w0,w0,List.length_singleton];have:=Nat.mul_le_mul z1 (show d.2.2.2.2.1.length+0≤5 by omega);omega
  rw [e,IA,List.length_append,tf,MO,e1,w0,List.length_singleton];omega
def eX (d:bQ) (bs:List eC):bQ:=(d.1,d.2.1,d.2.2.1,d.2.2.2.1,d.2.2.2.2.1,d.q.1,d.q.2.1,d.q.2.2.1,d.q.2.2.2.1,d.q.2.2.2.2.1,d.q.q.1,d.q.q.2.1,d.q.q.2.2.1,d.q.q.2.2.2.1,d.q.q.2.2.2.2.1,d.q.q.q.1,d.q.q.q.2.1,d.q.q.q.2.2.1,d.q.q.q.2.2.2.1,d.q.q.q.2.2.2.2.1,d.q.q.q.q.1,d.q.q.q.q.2.1,bs,d.q.q.q.q.2.2.2.1,())
noncomputable def fy (d:bQ) (b:eC):bQ:=bif ld d.q.q.q.q.1 d.q.q.q.q.2.1 (d.q.q.q.q.2.2.1++[b]) then fm (eX d (d.q.q.q.q.2.2.1++[b])) else eX d (d.q.q.q.q.2.2.1++[b])
noncomputable def w5 (d:bQ) (b:eC):Bool:=kj d&&(qU b&&(!decide (d.q.q.q.q.1=0)&&(decide (b.2.1=d.q.q.q.q.1) && !(il d.q.q.q.q.2.2.1 d.q.q.q.q.1 b.1).isSome)))
noncomputable def bt (d:bQ) (b:eC):bQ×Bool:=bif w5 d b then (fy d b,true) else (d,false)
theorem JV (o:Option eC):(uM o).2.2.2.2.1=o.isSome:=by cases o<;>rfl
theorem xG (d:bQ) (b:eC) (h:nj d≤1048576) (hb:b.2.2.2.1.length≤1048576) (hd:kj d=true) (hn:¬d.q.q.q.q.1=0):vu d∧oV d.q.q.q.q.1 d.q.q.q.q.2.1∧(d.1,())∈d.q.q.q.q.2.1∧jF (d.q.q.q.q.2.2.1++[b])∧d.2.2.2.2.1.length≤5∧d.q.q.q.q.2.2.2.1.length+wl bD d.q.q.q.q.2.2.2.1≤1048576∧mP (az d)≤5000:=by
 have q:=(pR d h).2.2.1 hd;have hj:oV d.q.q.q.q.1 d.q.q.q.q.2.1∧(d.1,())∈d.q.q.q.q.2.1:=by
  rcases q.nX with g | g
  ·exact absurd g.1 hn
  ·exact ⟨g.1,g.2.1⟩
 have h0:=h;unfold nj at h0;have hm:d.2.2.2.2.1.length≤5∧mP (az d)≤5000:=by
  rcases q.uP with g | g
  ·have g1:d.2.2.2.2.1=[]:=g.2.2.1;have g2:d.q.1=[]:=g.2.2.2.1;have g3:d.q.2.1=[]:=g.2.2.2.2.1;have g4:d.q.2.2.1=[]:=g.q.1;have g5:d.q.q.q.2.2.1=[]:=g.q.q.2.2.2.2.2;refine ⟨by rw [g1];exact Nat.zero_le _,?_⟩;show (List.length d.2.2.2.2.1+wl kY d.2.2.2.2.1)+(List.length d.q.1+wl ec d.q.1)+(List.length d.q.2.1+wl kY d.q.2.1)+(List.length d.q.2.2.1+wl KM d.q.2.2.1)+(List.length d.q.q.q.2.2.1+wl kY d.q.q.q.2.2.1)≤5000;rw [g1,g2,g3,g4,g5]
   decide
  ·exact ⟨g.1.ring.2.1.2,g.1.small⟩
 exact ⟨q,hj.1,hj.2,jF.more (by omega) hb,hm.1,by omega,hm.2⟩
theorem RY (d:bQ) (b:eC) (h:nj d≤1048576) (hb:b.2.2.2.1.length≤1048576) (hd:kj d=true) (hn:¬d.q.q.q.q.1=0):cI (fy d b).1 (fy d b).2.1 (fy d b).2.2.1 (fy d b).2.2.2.1 (fy d b).2.2.2.2.1 (fy d b).q.1 (fy d b).q.2.1 (fy d b).q.2.2.1 (fy d b).q.2.2.2.1 (fy d b).q.2.2.2.2.1 (fy d b).q.q.1 (fy d b).q.q.2.1 (fy d b).q.q.2.2.1 (fy d b).q.q.2.2.2.1 (fy d b).q.q.2.2.2.2.1 (fy d b).q.q.q.1 (fy d b).q.q.q.2.1 (fy d b).q.q.q.2.2.1 (fy d b).q.q.q.2.2.2.1 (fy d b).q.q.q.2.2.2.2.1 (fy d b).q.q.q.q.1 (fy d b).q.q.q.q.2.1 (fy d b).q.q.q.q.2.2.1 (fy d b).q.q.q.q.2.2.2.1=some (fy d b)∧nj (fy d b)≤2200000+(b.2.2.2.1.length+wl ec b.2.2.2.1):=by
 obtain ⟨q,hr,hm,hB,h4,hg,hw⟩:=xG d b h hb hd hn;have h0:=h;unfold nj at h0;unfold fy
 cases ld d.q.q.q.q.1 d.q.q.q.q.2.1 (d.q.q.q.q.2.2.1++[b])
 ·have e1:az (eX d (d.q.q.q.q.2.2.1++[b]))=az d:=rfl;refine ⟨PY (eX d (d.q.q.q.q.2.2.1++[b])) (by rw [e1];omega) (by show d.q.q.q.q.2.1.length≤_;omega) hB (by show d.q.q.q.q.2.2.2.1.length+wl bD d.q.q.q.q.2.2.2.1≤_;omega),?_⟩;have e:nj (eX d (d.q.q.q.q.2.2.1++[b]))=(List.length d.2.2.2.2.1+wl kY d.2.2.2.2.1)+(List.length d.q.1+wl ec d.q.1)+(List.length d.q.2.1+wl kY d.q.2.1)+(List.length d.q.2.2.1+wl KM d.q.2.2.1)+(List.length d.q.q.q.2.2.1+wl kY d.q.q.q.2.2.1)+(List.length d.q.q.q.q.2.1+wl kY d.q.q.q.q.2.1)+(List.length (d.q.q.q.q.2.2.1++[b])+wl fc (d.q.q.q.q.2.2.1++[b]))+(List.length d.q.q.q.q.2.2.2.1+wl bD d.q.q.q.q.2.2.2.1):=rfl;have e2:fc b=b.2.2.2.1.length+wl ec b.2.2.2.1:=rfl;show nj (eX d (d.q.q.q.q.2.2.1++[b]))≤_;rw [e,IA,List.length_append,tf,MO,e2,List.length_singleton];omega
 ·have h21:=hr.2.1.2;obtain ⟨s1,s2⟩:=NH (eX d (d.q.q.q.q.2.2.1++[b])) h21 h4 hB (by show d.q.2.1.length≤_;omega) (by show d.q.2.2.1.length+wl KM d.q.2.2.1≤_;omega) hg;have w0:∀l:cG,wl kY l=0:=fun l=>qh kY (fun _=>rfl) l
  have hmw:mP (az (fm (eX d (d.q.q.q.q.2.2.1++[b]))))≤1048576:=by
   have e:mP (az (fm (eX d (d.q.q.q.q.2.2.1++[b]))))=(List.length d.q.q.q.q.2.1+wl kY d.q.q.q.q.2.1)+0+(List.length d.q.2.1+wl kY d.q.2.1)+(List.length d.q.2.2.1+wl KM d.q.2.2.1)+0:=rfl;have e3:mP (az d)=(List.length d.2.2.2.2.1+wl kY d.2.2.2.2.1)+(List.length d.q.1+wl ec d.q.1)+(List.length d.q.2.1+wl kY d.q.2.1)+(List.length d.q.2.2.1+wl KM d.q.2.2.1)+(List.length d.q.q.q.2.2.1+wl kY d.q.q.q.2.2.1):=rfl;have e4:=w0 d.q.q.q.q.2.1;omega
  have e5:nj (fm (eX d (d.q.q.q.q.2.2.1++[b])))=mP (az (fm (eX d (d.q.q.q.q.2.2.1++[b]))))+0+0+((JU (fm (eX d (d.q.q.q.q.2.2.1++[b])))).length+wl bD (JU (fm (eX d (d.q.q.q.q.2.2.1++[b]))))):=rfl;refine ⟨PY _ hmw (Nat.zero_le _) ⟨Nat.zero_le _,fun x hx=>by cases hx⟩ (by show (JU (fm (eX d (d.q.q.q.q.2.2.1++[b])))).length+wl bD (JU (fm (eX d (d.q.q.q.q.2.2.1++[b]))))≤_;omega),?_⟩;show nj (fm (eX d (d.q.q.q.q.2.2.1++[b])))≤_;rw [e5];omega
theorem Ax (d:bQ) (b:eC) (h:nj d≤1048576) (hb:b.2.2.2.1.length≤1048576):na d.1 d.2.1 d.2.2.1 d.2.2.2.1 d.2.2.2.2.1 d.q.1 d.q.2.1 d.q.2.2.1 d.q.2.2.2.1 d.q.2.2.2.2.1 d.q.q.1 d.q.q.2.1 d.q.q.2.2.1 d.q.q.2.2.2.1 d.q.q.2.2.2.2.1 d.q.q.q.1 d.q.q.q.2.1 d.q.q.q.2.2.1 d.q.q.q.2.2.2.1 d.q.q.q.2.2.2.2.1 d.q.q.q.q.1 d.q.q.q.q.2.1 d.q.q.q.q.2.2.1 d.q.q.q.q.2.2.2.1 b.1 b.2.1 b.2.2.1 b.2.2.2.1=some ((bt d b).1.1,(bt d b).1.2.1,(bt d b).1.2.2.1,(bt d b).1.2.2.2.1,(bt d b).1.2.2.2.2.1,(bt d b).1.q.1,(bt d b).1.q.2.1,(bt d b).1.q.2.2.1,(bt d b).1.q.2.2.2.1,(bt d b).1.q.2.2.2.2.1,(bt d b).1.q.q.1,(bt d b).1.q.q.2.1,(bt d b).1.q.q.2.2.1,(bt d b).1.q.q.2.2.2.1,(bt d b).1.q.q.2.2.2.2.1,(bt d b).1.q.q.q.1,(bt d b).1.q.q.q.2.1,(bt d b).1.q.q.q.2.2.1,(bt d b).1.q.q.q.2.2.2.1,(bt d b).1.q.q.q.2.2.2.2.1,(bt d b).1.q.q.q.q.1,(bt d b).1.q.q.q.q.2.1,(bt d b).1.q.q.q.q.2.2.1,(bt d b).1.q.q.q.q.2.2.2.1,(bt d b).2,())∧nh d.1 d.2.1 d.2.2.1 d.2.2.2.1 d.2.2.2.2.1 d.q.1 d.q.2.1 d.q.2.2.1 d.q.2.2.2.1 d.q.2.2.2.2.1 d.q.q.1 d.q.q.2.1 d.q.q.2.2.1 d.q.q.2.2.2.1 d.q.q.2.2.2.2.1 d.q.q.q.1 d.q.q.q.2.1 d.q.q.q.2.2.1 d.q.q.q.2.2.2.1 d.q.q.q.2.2.2.2.1 d.q.q.q.q.1 d.q.q.q.q.2.1 d.q.q.q.q.2.2.1 d.q.q.q.q.2.2.2.1 b.1 b.2.1 b.2.2.1 b.2.2.2.1=some ((bt d b).1.1,(bt d b).1.2.1,(bt d b).1.2.2.1,(bt d b).1.2.2.2.1,(bt d b).1.2.2.2.2.1,(bt d b).1.q.1,(bt d b).1.q.2.1,(bt d b).1.q.2.2.1,(bt d b).1.q.2.2.2.1,(bt d b).1.q.2.2.2.2.1,(bt d b).1.q.q.1,(bt d b).1.q.q.2.1,(bt d b).1.q.q.2.2.1,(bt d b).1.q.q.2.2.2.1,(bt d b).1.q.q.2.2.2.2.1,(bt d b).1.q.q.q.1,(bt d b).1.q.q.q.2.1,(bt d b).1.q.q.q.2.2.1,(bt d b).1.q.q.q.2.2.2.1,(bt d b).1.q.q.q.2.2.2.2.1,(bt d b).1.q.q.q.q.1,(bt d b).1.q.q.q.q.2.1,(bt d b).1.q.q.q.q.2.2.1,(bt d b).1.q.q.q.q.2.2.2.1,(bt d b).2,()):=by
 obtain ⟨k1,k2,k3⟩:=pR d h;obtain ⟨p1,p2⟩:=vz d h;obtain ⟨b1,b2⟩:=sW b hb;obtain ⟨n1,_⟩:=vP d.q.q.q.q.1 d.q.q.q.q.2.1;have h0:=h;unfold nj at h0;have hS:jF d.q.q.q.q.2.2.1:=jF.of (by omega);have f1:=sX d.q.q.q.q.1 d.q.q.q.q.2.1 d.q.q.q.q.2.2.1 b.1 hS;have f2:=wY d.q.q.q.q.1 d.q.q.q.q.2.1 d.q.q.q.q.2.2.1 b.1 hS;have c1:=(jG b hb).1;have c2:=(jG b hb).2;have Zy:Nat.ble ((d.q.q.q.q.2.2.1.length+1)*48) lim=true:=aW (by unfold lim;omega);have a12:=E4 d.q.q.q.q.1 d.q.q.q.q.2.1 (d.q.q.q.q.2.2.1++[b]) (by omega) (jF.more (by omega) hb);have a1:kS d.q.q.q.q.1 d.q.q.q.q.2.1 (d.q.q.q.q.2.2.1++[(b.1,b.2.1,b.2.2.1,b.2.2.2.1,())])=some (ld d.q.q.q.q.1 d.q.q.q.q.2.1 (d.q.q.q.q.2.2.1++[b]),()):=a12.1;have a2:rX d.q.q.q.q.1 d.q.q.q.q.2.1 (d.q.q.q.q.2.2.1++[(b.1,b.2.1,b.2.2.1,b.2.2.2.1,())])=some (ld d.q.q.q.q.1 d.q.q.q.q.2.1 (d.q.q.q.q.2.2.1++[b]),()):=a12.2;have hnr:kj d=true→(decide (d.q.q.q.q.1=0)&&decide (((List.length d.q.q.q.q.2.1:Nat):Int)=0))=decide (d.q.q.q.q.1=0):=fun hd=>by
  rcases (k3.1 hd).nX with g | g
  ·rw [g.1,g.2.1];rfl
  ·have:=g.1.1.1;rw [VH (show ¬d.q.q.q.q.1=0 by omega)];rfl
 unfold bt w5
 constructor
 ·unfold na;delta aX aA aP bf aF;simp only [p1,k1,b1,n1,f1,c1,Option.bind_some,JV]
  cases hd:kj d
  ·rfl
  cases hB:qU b
  ·rfl
  rw [hnr hd]
  by_cases hn:d.q.q.q.q.1=0
  ·rw [Y9 hn];rfl
  rw [VH hn]
  cases decide (b.2.1=d.q.q.q.q.1)
  ·rfl
  cases (il d.q.q.q.q.2.2.1 d.q.q.q.q.1 b.1).isSome
  case true=>rfl
  obtain ⟨q,hr,hm,hBS,h4,hg,_⟩:=xG d b h hb hd hn;have i1:=(vC (eX d (d.q.q.q.q.2.2.1++[b])) hr hm hBS (by show d.2.2.2.2.1.length≤_;omega) (by show d.q.q.q.q.2.2.2.1.length≤_;omega)).1;have i1:eV d.1 d.2.1 d.2.2.1 d.2.2.2.1 d.2.2.2.2.1 d.q.1 d.q.2.1 d.q.2.2.1 d.q.2.2.2.1 d.q.2.2.2.2.1 d.q.q.1 d.q.q.2.1 d.q.q.2.2.1 d.q.q.2.2.2.1 d.q.q.2.2.2.2.1 d.q.q.q.1 d.q.q.q.2.1 d.q.q.q.2.2.1 d.q.q.q.2.2.2.1 d.q.q.q.2.2.2.2.1 d.q.q.q.q.1 d.q.q.q.q.2.1 (d.q.q.q.q.2.2.1++[(b.1,b.2.1,b.2.2.1,b.2.2.2.1,())]) d.q.q.q.q.2.2.2.1=some (fm (eX d (d.q.q.q.q.2.2.1++[b]))):=i1;have ct:=(RY d b h hb hd hn).1;unfold fy at ct ⊢;simp only [Bool.not_true,Bool.not_false,cond_false,cond_true,Bool.and_self,Zy,a1,Option.bind_some]
  revert ct
  cases ld d.q.q.q.q.1 d.q.q.q.q.2.1 (d.q.q.q.q.2.2.1++[b])<;>intro ct
  ·have ct:cI d.1 d.2.1 d.2.2.1 d.2.2.2.1 d.2.2.2.2.1 d.q.1 d.q.2.1 d.q.2.2.1 d.q.2.2.2.1 d.q.2.2.2.2.1 d.q.q.1 d.q.q.2.1 d.q.q.2.2.1 d.q.q.2.2.2.1 d.q.q.2.2.2.2.1 d.q.q.q.1 d.q.q.q.2.1 d.q.q.q.2.2.1 d.q.q.q.2.2.2.1 d.q.q.q.2.2.2.2.1 d.q.q.q.q.1 d.q.q.q.q.2.1 (d.q.q.q.q.2.2.1++[(b.1,b.2.1,b.2.2.1,b.2.2.2.1,())]) d.q.q.q.q.2.2.2.1=some (eX d (d.q.q.q.q.2.2.1++[b])):=ct;simp only [cond_false,ct,Option.bind_some]
  ·simp only [cond_true] at ct;simp only [cond_true,i1,Option.bind_some];rw [ct];rfl
 ·unfold nh;delta aX aP cM bf aF bF;simp only [p2,k2,b2,f2,c2,Option.bind_some,JV]
  by_cases hn:d.q.q.q.q.1=0
  ·rw [Y9 hn]
   cases kj d<;>cases qU b<;>rfl
  rw [VH hn]
  cases Dc:decide (b.2.1=d.q.q.q.q.1)
  ·cases kj d<;>cases qU b<;>rfl
  cases hB:qU b
  ·cases kj d<;>rfl
  cases hd:kj d
  ·rfl
  cases (il d.q.q.q.q.2.2.1 d.q.q.q.q.1 b.1).isSome
  case true=>rfl
  obtain ⟨q,hr,hm,hBS,h4,hg,_⟩:=xG d b h hb hd hn;have i1:=(vC (eX d (d.q.q.q.q.2.2.1++[b])) hr hm hBS (by show d.2.2.2.2.1.length≤_;omega) (by show d.q.q.q.q.2.2.2.1.length≤_;omega)).2;have i1:dk d.1 d.2.1 d.2.2.1 d.2.2.2.1 d.2.2.2.2.1 d.q.1 d.q.2.1 d.q.2.2.1 d.q.2.2.2.1 d.q.2.2.2.2.1 d.q.q.1 d.q.q.2.1 d.q.q.2.2.1 d.q.q.2.2.2.1 d.q.q.2.2.2.2.1 d.q.q.q.1 d.q.q.q.2.1 d.q.q.q.2.2.1 d.q.q.q.2.2.2.1 d.q.q.q.2.2.2.2.1 d.q.q.q.q.1 d.q.q.q.q.2.1 (d.q.q.q.q.2.2.1++[(b.1,b.2.1,b.2.2.1,b.2.2.2.1,())]) d.q.q.q.q.2.2.2.1=some (fm (eX d (d.q.q.q.q.2.2.1++[b]))):=i1;unfold fy;simp only [Bool.not_true,Bool.not_false,cond_false,cond_true,Bool.and_self,Zy,a2,Option.bind_some]
  cases ld d.q.q.q.q.1 d.q.q.q.q.2.1 (d.q.q.q.q.2.2.1++[b])
  ·rfl
  ·simp only [cond_true,i1,Option.bind_some]
end Go.TM
set_option linter.unusedSimpArgs false
set_option linter.unusedVariables false
namespace Go.TM
open Go
theorem Fc (d:bQ) (t:gN) (m:ia) (said:aZ) (nx:gN) (b:Bool) (r:bQ) (p1:cI d.1 d.2.1 d.2.2.1 d.2.2.2.1 d.2.2.2.2.1 d.q.1 d.q.2.1 d.q.2.2.1 d.q.2.2.2.1 d.q.2.2.2.2.1 d.q.q.1 d.q.q.2.1 d.q.q.2.2.1 d.q.q.2.2.2.1 d.q.q.2.2.2.2.1 d.q.q.q.1 d.q.q.q.2.1 d.q.q.q.2.2.1 d.q.q.q.2.2.2.1 d.q.q.q.2.2.2.2.1 d.q.q.q.q.1 d.q.q.q.q.2.1 d.q.q.q.q.2.2.1 d.q.q.q.q.2.2.2.1=some d) (hi:eU d.1 d.2.1 d.2.2.1 d.2.2.2.1 d.2.2.2.2.1 d.q.1 d.q.2.1 d.q.2.2.1 d.q.2.2.2.1 d.q.2.2.2.2.1 d.q.q.1 d.q.q.2.1 d.q.q.2.2.1 d.q.q.2.2.2.1 d.q.q.2.2.2.2.1 d.q.q.q.1 d.q.q.q.2.1 d.q.q.q.2.2.1 d.q.q.q.2.2.2.1 d.q.q.q.2.2.2.2.1 d.q.q.q.q.1 d.q.q.q.q.2.1 d.q.q.q.q.2.2.1 d.q.q.q.q.2.2.2.1=some (eO d,())) (c1:lY d.2.2.1 d.2.2.2.1 d.2.2.2.2.1 d.q.1 d.q.2.1 d.q.2.2.1 d.q.2.2.2.1 d.q.2.2.2.2.1 d.q.q.1 d.q.q.2.1 d.q.q.2.2.1 d.q.q.2.2.2.1 d.q.q.2.2.2.2.1 d.q.q.q.1 d.q.q.q.2.1 d.q.q.q.2.2.1 t.1 t.2.1 t.2.2.1 t.2.2.2.1 t.2.2.2.2.1 t.q.1=some (m.1,m.2.1,m.2.2.1,m.2.2.2.1,m.2.2.2.2.1,m.q.1,m.q.2.1,m.q.2.2.1,m.q.2.2.2.1,m.q.2.2.2.2.1,m.q.q.1,m.q.q.2.1,m.q.q.2.2.1,m.q.q.2.2.2.1,m.q.q.2.2.2.2.1,m.q.q.q.1,said,nx.1,nx.2.1,nx.2.2.1,nx.2.2.2.1,nx.2.2.2.2.1,nx.q.1,b,()))
  (e1:b=true→kR d.1 d.2.1 m.1 m.2.1 m.2.2.1 m.2.2.2.1 m.2.2.2.2.1 m.q.1 m.q.2.1 m.q.2.2.1 m.q.2.2.2.1 m.q.2.2.2.2.1 m.q.q.1 m.q.q.2.1 m.q.q.2.2.1 m.q.q.2.2.2.1 m.q.q.2.2.2.2.1 m.q.q.q.1 d.q.q.q.2.2.2.1 d.q.q.q.2.2.2.2.1 d.q.q.q.q.1 d.q.q.q.q.2.1 d.q.q.q.q.2.2.1 d.q.q.q.q.2.2.2.1=some r):gV d.1 d.2.1 d.2.2.1 d.2.2.2.1 d.2.2.2.2.1 d.q.1 d.q.2.1 d.q.2.2.1 d.q.2.2.2.1 d.q.2.2.2.2.1 d.q.q.1 d.q.q.2.1 d.q.q.2.2.1 d.q.q.2.2.2.1 d.q.q.2.2.2.2.1 d.q.q.q.1 d.q.q.q.2.1 d.q.q.q.2.2.1 d.q.q.q.2.2.2.1 d.q.q.q.2.2.2.2.1 d.q.q.q.q.1 d.q.q.q.q.2.1 d.q.q.q.q.2.2.1 d.q.q.q.q.2.2.2.1 t.1 t.2.1 t.2.2.1 t.2.2.2.1 t.2.2.2.2.1 t.q.1=bif eO d&&b then some (r.1,r.2.1,r.2.2.1,r.2.2.2.1,r.2.2.2.2.1,r.q.1,r.q.2.1,r.q.2.2.1,r.q.2.2.2.1,r.q.2.2.2.2.1,r.q.q.1,r.q.q.2.1,r.q.q.2.2.1,r.q.q.2.2.2.1,r.q.q.2.2.2.2.1,r.q.q.q.1,r.q.q.q.2.1,r.q.q.q.2.2.1,r.q.q.q.2.2.2.1,r.q.q.q.2.2.2.2.1,r.q.q.q.q.1,r.q.q.q.q.2.1,r.q.q.q.q.2.2.1,r.q.q.q.q.2.2.2.1,said,nx.1,nx.2.1,nx.2.2.1,nx.2.2.2.1,nx.2.2.2.2.1,nx.q.1,true,()) else some (d.1,d.2.1,d.2.2.1,d.2.2.2.1,d.2.2.2.2.1,d.q.1,d.q.2.1,d.q.2.2.1,d.q.2.2.2.1,d.q.2.2.2.2.1,d.q.q.1,d.q.q.2.1,d.q.q.2.2.1,d.q.q.2.2.2.1,d.q.q.2.2.2.2.1,d.q.q.q.1,d.q.q.q.2.1,d.q.q.q.2.2.1,d.q.q.q.2.2.2.1,d.q.q.q.2.2.2.2.1,d.q.q.q.q.1,d.q.q.q.q.2.1,d.q.q.q.q.2.2.1,d.q.q.q.q.2.2.2.1,[],(0:Int),(0:Int),(0:Int),(0:Int),(0:Int),[],false,()):=by
 unfold gV;delta aX aP bf bF;rw [p1,Option.bind_some,hi,Option.bind_some]
 cases eO d
 ·rfl
 ·cases b
  ·simp only [Bool.not_true,cond_false,c1,Option.bind_some,Bool.not_false,cond_true,Bool.and_false]
  ·simp only [Bool.not_true,cond_false,c1,Option.bind_some,e1 rfl,Bool.and_self,cond_true]
end Go.TM
set_option linter.unusedSimpArgs false
set_option linter.unusedVariables false
namespace Go.TM
open Go
structure NI (e:sf):Prop where
 ring:e.2.2.1.length≤5
 C8:e.q.2.2.1.length≤5
 text:ByteArray.size e.q.2.1≤60
structure mm (n:Nat) (d:bQ):Prop where
 q:vu d
 VW:d.q.q.q.q.2.2.1.length≤n
 log:d.q.q.q.q.2.2.2.1.length≤63*n
 Zz:∀e∈d.q.q.q.q.2.2.2.1,NI e
theorem mm.up {n n':Nat} {d:bQ} (h:mm n d) (hn:n≤n'):mm n' d:=⟨h.q,Nat.le_trans h.VW hn,Nat.le_trans h.log (Nat.mul_le_mul_left 63 hn),h.Zz⟩
theorem Ay {d:bQ} (q:vu d):d.2.2.2.2.1.length≤5∧mP (az d)≤5000:=by
 rcases q.uP with g | g
 ·have g1:d.2.2.2.2.1=[]:=g.2.2.1;have g2:d.q.1=[]:=g.2.2.2.1;have g3:d.q.2.1=[]:=g.2.2.2.2.1;have g4:d.q.2.2.1=[]:=g.q.1;have g5:d.q.q.q.2.2.1=[]:=g.q.q.2.2.2.2.2;refine ⟨by rw [g1];exact Nat.zero_le _,?_⟩;show (List.length d.2.2.2.2.1+wl kY d.2.2.2.2.1)+(List.length d.q.1+wl ec d.q.1)+(List.length d.q.2.1+wl kY d.q.2.1)+(List.length d.q.2.2.1+wl KM d.q.2.2.1)+(List.length d.q.q.q.2.2.1+wl kY d.q.q.q.2.2.1)≤5000;rw [g1,g2,g3,g4,g5]
  decide
 ·exact ⟨g.1.ring.2.1.2,g.1.small⟩
theorem CI {b:eC} (h:DY b):b.2.2.2.1.length≤60∧wl ec b.2.2.2.1≤3600:=di _ h.2.2.2.1
theorem RZ {d:bQ} (q:vu d):d.q.q.q.q.2.1.length≤5∧∀b∈d.q.q.q.q.2.2.1,DY b:=by
 rcases q.nX with g | g
 ·exact ⟨by rw [g.2.1];exact Nat.zero_le _,by rw [g.2.2];exact fun b hb=>by cases hb⟩
 ·exact ⟨g.1.2.1.2,fun b hb=>(g.2.2.2 b hb).1⟩
theorem mm.small {n:Nat} {d:bQ} (h:mm n d) (hn:n≤100):nj d≤1048576:=by
 have h1:=(Ay h.q).2;obtain ⟨h2,h3⟩:=RZ h.q;have h4:=Nr fc 3660 d.q.q.q.q.2.2.1 (fun b hb=>by
  have:=CI (h3 b hb);have e:fc b=b.2.2.2.1.length+wl ec b.2.2.2.1:=rfl;omega)
 have h5:=Nr bD 70 d.q.q.q.q.2.2.2.1 (fun e he=>by
  obtain ⟨e1,e2,e3⟩:=h.Zz e he;have e4:bD e=(e.2.2.1.length+wl kY e.2.2.1)+ByteArray.size e.q.2.1+(e.q.2.2.1.length+wl kY e.q.2.2.1):=rfl;have e5:wl kY e.2.2.1=0:=qh kY (fun _=>rfl) _;have e6:wl kY e.q.2.2.1=0:=qh kY (fun _=>rfl) _;omega)
 have h6:wl kY d.q.q.q.q.2.1=0:=qh kY (fun _=>rfl) _;have h7:=h.VW;have h8:=h.log;have e:nj d=mP (az d)+(List.length d.q.q.q.q.2.1+wl kY d.q.q.q.q.2.1)+(List.length d.q.q.q.q.2.2.1+wl fc d.q.q.q.q.2.2.1)+(List.length d.q.q.q.q.2.2.2.1+wl bD d.q.q.q.q.2.2.2.1):=rfl;omega
theorem Tv {d:bQ} (q:vu d) (h:¬d.q.q.q.2.2.2.2.1=0):ra (az d)∧d.2.2.1=d.1∧d.2.1=false:=by
 have hd:d.2.1=false:=by
  cases e:d.2.1
  ·rfl
  ·exact absurd (q.dead e).2.1 h
 rcases q.uP with g | g
 ·have h1:d.2.2.2.1=0:=g.2.1;have h2:=q.old.1;exact absurd (h2.trans h1) h
 ·exact ⟨g.1,g.2,hd⟩
theorem R0 {d:bQ} {m:ia} (h:vu d) (hd:d.2.1=false) (hm:ra m) (h1:m.1=d.1) (h2:m.2.1=d.2.2.2.1):vu (bE d m):=
 {
  id:=h.id
  yE:=h.yE
  dead:=fun e=>by
   have e:d.2.1=true:=e;rw [hd] at e;cases e
  uP:=.inr ⟨hm,h1⟩
  old:=⟨h.old.1.trans h2.symm,h.old.2⟩
  nX:=h.nX }
theorem Az {n:Nat} {d:bQ} {m:ia} (h:mm n d) (hd:d.2.1=false) (hm:ra m) (h1:m.1=d.1) (h2:m.2.1=d.2.2.2.1):mm n (bE d m):=⟨R0 h.q hd hm h1 h2,h.VW,h.log,h.Zz⟩
theorem an7 {n:Nat} {d:bQ} (h:mm n d) (hn:n≤100) {level:Int} {text:ByteArray} (hl:1≤level∧level≤2) (ht:ByteArray.size text≤60) (hb:(bR d level text).2=true):mm (n+1) (bR d level text).1∧(bR d level text).1.1=d.1:=by
 have hW:=h.small hn;have hq:=h.q;unfold bR at hb ⊢
 cases hc:(kj d&&(!d.2.1&&(!decide (d.q.q.q.2.2.2.2.1=0)&&(eS (az d) level text).2)))
 ·rw [hc] at hb;cases hb
 ·simp only [cond_true];simp only [Bool.and_eq_true,Bool.not_eq_true',decide_eq_false_iff_not] at hc;obtain ⟨_,c1,c2,c3⟩:=hc;obtain ⟨m1,m2,_⟩:=Tv hq c2;have abz:VS (az d) level text=true:=by
   unfold eS at c3
   cases hm2:VS (az d) level text
   ·rw [hm2] at c3;cases c3
   ·rfl
  have hs:(eS (az d) level text).1=To (az d) level text:=by unfold eS;rw [abz];rfl
  unfold VS at abz;simp only [Bool.and_eq_true,decide_eq_true_eq] at abz;rw [hs];exact ⟨(Az h c1 (abx m1 hl ht abz.2.2.2) m2 rfl).up (Nat.le_succ n),rfl⟩
theorem NJ {xs:aZ} (h:fx xs xs.length) (s:Int):ByteArray.size (Au xs s).2.2.2.1≤60:=by
 unfold Au
 cases e:fH xs s with
 |none=>show (0:Nat)≤60;decide
 |some r=>exact (sY h r (DW e).1).2.2.2
theorem NK {c:Int} {ms:cG} {l:aZ} (hm:ms.length≤5) (hl:∀x∈l,ByteArray.size x.2.2.2.1≤60):∀e∈eA c ms l,NI e:=fun e he=>by
 obtain ⟨x,hx,rfl⟩:=List.mem_map.1 he;exact ⟨hm,Nat.zero_le _,hl x hx⟩
theorem Ch {m:ia} (hm:ra m):∃k:Nat,k≤60∧cB m=(vR m (m.q.2.2.2.2.1+((k:Nat):Int)),iJ m.2.2.2.1 m.q.2.2.2.2.1 k)∧ra (vR m (m.q.2.2.2.2.1+((k:Nat):Int))):=by
 obtain ⟨k,n,rfl,_,e,q,g,_⟩:=aby hm;have ha:=(Am m.2.2.2.1 (Nat.le_trans (di _ hm.items).1 (by decide))).2.2.1;have hi:=(di _ hm.items).1;have hg:=hm.heard;refine ⟨k,by omega,?_,q⟩;unfold cB;rw [e]
theorem ZA {d:bQ} (q:vu d) (l:aZ):vu (lJ d l):={ id:=q.id,yE:=q.yE,dead:=q.dead,uP:=q.uP,old:=q.old,nX:=q.nX }
theorem R1 (d:bQ) (l:aZ):(lJ d l).q.q.q.q.2.2.2.1=d.q.q.q.q.2.2.2.1++eA d.2.2.2.1 d.2.2.2.2.1 l∧(lJ d l).q.q.q.q.2.2.1=d.q.q.q.q.2.2.1∧(lJ d l).1=d.1:=⟨rfl,rfl,rfl⟩
theorem ZB {n:Nat} {d:bQ} (h:mm n d) {l:aZ} (hm:(d.2.2.2.2.1).length≤5) (hl:l.length≤60) (ht:∀x∈l,ByteArray.size x.2.2.2.1≤60):mm (n+1) (lJ d l)∧(lJ d l).1=d.1:=by
 obtain ⟨e1,e2,e3⟩:=R1 d l;refine ⟨⟨ZA h.q l,by rw [e2];exact Nat.le_trans h.VW (Nat.le_succ n),?_,fun x hx => ?_⟩,e3⟩
 ·have:=h.log;rw [e1,List.length_append,nD];omega
 ·rw [e1] at hx;rcases List.mem_append.1 hx with hx | hx
  ·exact h.Zz x hx
  ·exact NK hm ht x hx
theorem PZ {n:Nat} {d:bQ} (h:mm n d) (hm:ra (az d)) (h1:d.2.2.1=d.1) (hd:d.2.1=false):mm (n+1) (ed d)∧(ed d).1=d.1:=by
 obtain ⟨k,hk,e,q⟩:=Ch hm;have hw:=Az h hd q h1 rfl;unfold ed;rw [e];refine ZB hw hm.ring.2.1.2 (by rw [Av];exact hk) fun x hx => ?_
 obtain ⟨j,_,rfl⟩:=List.mem_map.1 hx;exact NJ hm.items _
theorem Tw {m:ia} (hm:ra m) (x:ez):ra (pT m x)∧(pT m x).1=m.1∧(pT m x).2.1=m.2.1:=by
 have hi:=(di _ hm.items).1
 cases hx:AR x
 ·have hc:pT m x=m:=by
   unfold pT JN;rw [hx]
   cases uN m<;>cases nL m.2.2.2.1<;>rfl
  rw [hc];exact ⟨hm,rfl,rfl⟩
 ·have hq:=(Al x).2.2.1 hx;have hp:=An hm.items hq;have T1:=(di _ hp).1;have ha:dJ m.2.2.2.1≤dJ (oc m.2.2.2.1 x):=PW (by omega) (by omega) fun r hr=>⟨r,Gl hr,rfl⟩
  have hc:pT m x=CG m (oc m.2.2.2.1 x):=by
   unfold pT JN;rw [(uO m (Nat.le_trans hm.small (by decide))).2.2.2 hm,(qc _ (by omega)).2.2.2 hm.items,(Al x).2.2.2 hq];rfl
  rw [hc];exact ⟨{ hm with
   items:=hp
   line:=⟨hm.line.1,by show m.q.2.2.2.1≤((dJ (oc m.2.2.2.1 x):Nat):Int);have:=hm.line.2;omega⟩
   heard:=⟨hm.heard.1,by show m.q.2.2.2.2.1≤((dJ (oc m.2.2.2.1 x):Nat):Int);have:=hm.heard.2;omega⟩ },rfl,rfl⟩
theorem jZ {d:bQ} (h:nj d≤1048576) (hi:eO d=true):ra (az d)∧d.2.2.1=d.1∧d.2.1=false∧¬d.q.q.q.2.2.2.2.1=0:=by
 obtain ⟨q,_,h2,_,h4,_⟩:=PS d h hi;have mn:¬d.q.q.q.2.2.2.2.1=0:=by omega
 obtain ⟨m1,m2,_⟩:=Tv q mn;exact ⟨m1,m2,h2,mn⟩
theorem R2 {n:Nat} {d:bQ} (h:mm n d) (hn:n≤100) (tR:Int) (x:ez):mm (n+1) (px d tR x)∧(px d tR x).1=d.1:=by
 unfold px
 cases hc:(eO d&&decide (d.q.q.q.2.2.2.2.1=tR))
 ·exact ⟨h.up (Nat.le_succ n),rfl⟩
 ·simp only [Bool.and_eq_true] at hc;obtain ⟨m1,m2,m3,_⟩:=jZ (h.small hn) hc.1;obtain ⟨c1,c2,c3⟩:=Tw m1 x;exact PZ (Az h m3 c1 (c2.trans m2) c3) c1 (c2.trans m2) m3
def JW (d:bQ):bQ:=(d.1,true,0,0,[],[],[],[],0,0,0,0,0,0,0,0,0,[],d.q.q.q.2.2.2.1,0,0,[],[],d.q.q.q.q.2.2.2.1,())
theorem aiw {n:Nat} {d:bQ} (h:mm n d):mm n (JW d):=
 ⟨{
  id:=h.q.id
  yE:=h.q.yE
  dead:=fun _=>⟨⟨rfl,rfl,rfl,rfl,rfl,rfl,rfl,rfl,rfl,rfl,rfl,rfl,rfl,rfl,rfl,rfl⟩,rfl,rfl,rfl,rfl⟩
  uP:=.inl ⟨rfl,rfl,rfl,rfl,rfl,rfl,rfl,rfl,rfl,rfl,rfl,rfl,rfl,rfl,rfl,rfl⟩
  old:=⟨rfl,h.q.yE.1⟩
  nX:=.inl ⟨rfl,rfl,rfl⟩ },Nat.zero_le _,h.log,h.Zz⟩
theorem aix {n:Nat} {d:bQ} (h:mm n d) (hb:(cA d).2=true):mm n (cA d).1∧(cA d).1.1=d.1:=by
 unfold cA at hb ⊢
 cases hc:(kj d&&d.2.1)
 ·rw [hc] at hb;cases hb
 ·exact ⟨⟨{ id:=h.q.id,yE:=h.q.yE,dead:=fun e=>(by cases e),uP:=h.q.uP,old:=h.q.old,nX:=h.q.nX },h.VW,h.log,h.Zz⟩,rfl⟩
end Go.TM
set_option linter.unusedSimpArgs false
set_option linter.unusedVariables false
namespace Go.TM
open Go
theorem Fe (xs:List eC) (c id:Int) (gX:eC):(ms:cG)→(out:cG)→(ms.foldl (fun out m=>iX xs c id gX out m.1) out).length≤out.length+ms.length
 | [],out=>by simp
 |m::ms,out=>by
  have h1:=E2 xs c id gX out m.1;have h2:=Fe xs c id gX ms (iX xs c id gX out m.1);rw [List.foldl_cons,List.length_cons];omega
theorem R3 (xs:List eC) (c:Int) (ms:cG) (id:Int):(fw xs c ms id).length≤ms.length:=by
 unfold fw
 cases il xs c id with
 |none=>exact Nat.zero_le _
 |some gX=>
  have:=Fe xs c id gX ms [];simpa using this
theorem R4 (xs:List eC) (c:Int) (ms:cG) (id heard:Int) (h:jF xs):(uV xs c ms id heard).length≤60∧∀x∈uV xs c ms id heard,qV x:=by
 refine ⟨(Gn xs c ms id heard h).1,fun x hx => ?_⟩;have sw:∀x∈uQ xs c ms id,qV x:=fun x hx=>by
  unfold uQ x9 at hx;have hx:=(List.mem_filter.1 hx).1;refine sY (oW _ sZ fun l hl => ?_) x hx;obtain ⟨d,_,rfl⟩:=List.mem_map.1 hl;exact vv xs c h d
 unfold uV at hx
 split at hx
 ·cases hx
 ·rename_i gX _
  cases hz:decide (gX.2.2.1=0)
  ·rw [hz] at hx;exact sw x (List.mem_filter.1 hx).1
  ·rw [hz] at hx;cases hx
theorem Mf {d:bQ} (q:vu d) (hj:¬d.q.q.q.q.1=0):vu (fm d):=by
 obtain ⟨j1,j2,j3,_⟩:=q.nX.resolve_left fun g=>hj g.1
 have hm:ra (az (fm d)):={
  ring:=j1
  mem:=j2
  items:=fun k hk=>by cases hk
  texts:=by
   rcases q.uP with g | g
   ·have g1:d.q.2.1=[]:=g.2.2.2.2.1;have g2:d.q.2.2.1=[]:=g.q.1;show (d.q.2.2.1).length≤20∧(d.q.2.1).length=(d.q.2.2.1).length;rw [g1,g2];exact ⟨Nat.zero_le _,rfl⟩
   ·exact g.1.texts
  lev:=by
   rcases q.uP with g | g
   ·have g1:d.q.2.1=[]:=g.2.2.2.2.1;show yC d.q.2.1 (d.q.2.1).length;rw [g1];exact fun j hj=>by cases hj
   ·exact g.1.lev
  short:=by
   rcases q.uP with g | g
   ·have g2:d.q.2.2.1=[]:=g.q.1;show la d.q.2.2.1 (d.q.2.2.1).length;rw [g2];exact fun j hj=>by cases hj
   ·exact g.1.short
  round:=⟨Int.le_refl _,show (0:Int)≤1000000000 by decide⟩
  seen:=⟨Int.le_refl _,show (0:Int)≤60 by decide⟩
  line:=⟨Int.le_refl _,Int.natCast_nonneg _⟩
  heard:=⟨Int.le_refl _,Int.natCast_nonneg _⟩
  last:=.inl ⟨rfl,rfl,rfl,rfl,rfl,rfl⟩ }
 exact
 {
  id:=q.id
  yE:=q.yE
  dead:=fun e=>by
   have e:d.2.1=true:=e;exact absurd (q.dead e).2.2.1 hj
  uP:=.inr ⟨hm,rfl⟩
  old:=⟨rfl,j3.2⟩
  nX:=.inl ⟨rfl,rfl,rfl⟩ }
theorem G7 {d:bQ} (q:vu d) (hj:¬d.q.q.q.q.1=0) (hB:jF d.q.q.q.q.2.2.1) (he:∀e∈d.q.q.q.q.2.2.2.1,NI e):(yH d++[(3,d.q.q.q.q.1,d.q.q.q.q.2.1,0,0,0,ByteArray.empty,d.q.q.q.q.2.1,())]:List sf).length≤(d.q.q.q.q.2.2.2.1).length+62∧∀e∈(yH d++[(3,d.q.q.q.q.1,d.q.q.q.q.2.1,0,0,0,ByteArray.empty,d.q.q.q.q.2.1,())]:List sf),NI e:=by
 obtain ⟨j1,j2,j3,_⟩:=q.nX.resolve_left fun g=>hj g.1
 have h4:=(Ay q).1;obtain ⟨r1,r2⟩:=R4 d.q.q.q.q.2.2.1 d.q.q.q.q.1 d.q.q.q.q.2.1 d.1 d.q.q.2.1 hB;have hw:=R3 d.q.q.q.q.2.2.1 d.q.q.q.q.1 d.q.q.q.q.2.1 d.1;have hp:(Cg d).length≤61:=by
  unfold Cg;rw [List.length_append,nD,List.length_singleton];omega
 have hpe:∀e∈Cg d,NI e:=fun e h=>by
  unfold Cg at h;rcases List.mem_append.1 h with h | h
  ·rw [List.mem_singleton] at h;subst h;exact ⟨h4,Nat.le_trans hw j1.2.1.2,show (0:Nat)≤60 by decide⟩
  ·exact NK h4 (fun x hx=>(r2 x hx).2.2.2) e h
 have hg:(yH d).length≤(d.q.q.q.q.2.2.2.1).length+61∧∀e∈yH d,NI e:=by
  unfold yH
  cases decide (0<d.q.q.q.2.2.2.2.1)
  ·exact ⟨Nat.le_add_right _ _,he⟩
  ·refine ⟨by show (d.q.q.q.q.2.2.2.1++Cg d).length≤_;rw [List.length_append];omega,fun e h => ?_⟩;have h:e∈d.q.q.q.q.2.2.2.1++Cg d:=h;rcases List.mem_append.1 h with h | h
   ·exact he e h
   ·exact hpe e h
 refine ⟨by rw [List.length_append,List.length_singleton];omega,fun e h => ?_⟩;rcases List.mem_append.1 h with h | h
 ·exact hg.2 e h
 ·rw [List.mem_singleton] at h;subst h;exact ⟨j1.2.1.2,j1.2.1.2,show (0:Nat)≤60 by decide⟩
theorem VX {n:Nat} {d:bQ} (h:mm n d) (hn:n≤100) {b:eC} (hb:b.2.2.2.1.length≤1048576) (ht:(bt d b).2=true):mm (n+1) (bt d b).1∧(bt d b).1.1=d.1∧DY b∧¬d.q.q.q.q.1=0∧b.2.1=d.q.q.q.q.1:=by
 have hW:=h.small hn;unfold bt at ht ⊢
 cases hc:w5 d b
 ·rw [hc] at ht;cases ht
 ·unfold w5 at hc;simp only [Bool.and_eq_true,Bool.not_eq_true',decide_eq_true_eq,decide_eq_false_iff_not] at hc;obtain ⟨c1,c2,c3,c4,_⟩:=hc;have hP:=(Nu b hb).1 c2;obtain ⟨_,_,_,hB,_,_,_⟩:=xG d b hW hb c1 c3;obtain ⟨j1,j2,j3,j4⟩:=h.q.nX.resolve_left fun g=>c3 g.1
  have hq:mm (n+1) (eX d (d.q.q.q.q.2.2.1++[b])):=
   ⟨{
    id:=h.q.id
    yE:=h.q.yE
    dead:=fun e=>by
     have e:d.2.1=true:=e;exact absurd (h.q.dead e).2.2.1 c3
    uP:=h.q.uP
    old:=h.q.old
    nX:=.inr ⟨j1,j2,j3,fun x hx=>by
     have hx:x∈d.q.q.q.q.2.2.1++[b]:=hx;rcases List.mem_append.1 hx with hx | hx
     ·exact j4 x hx
     ·rw [List.mem_singleton] at hx;subst hx;exact ⟨hP,c4⟩⟩ },
   by show (d.q.q.q.q.2.2.1++[b]).length≤_;rw [List.length_append,List.length_singleton];have:=h.VW;omega,
   by show (d.q.q.q.q.2.2.2.1).length≤_;have:=h.log;omega,h.Zz⟩
  refine ⟨?_,?_,hP,c3,c4⟩
  ·show mm (n+1) (fy d b);unfold fy
   cases ld d.q.q.q.q.1 d.q.q.q.q.2.1 (d.q.q.q.q.2.2.1++[b])
   ·exact hq
   ·obtain ⟨g1,g2⟩:=G7 (d:=eX d (d.q.q.q.q.2.2.1++[b])) hq.q c3 hB h.Zz;exact ⟨Mf hq.q c3,Nat.zero_le _,by
     show (yH (eX d (d.q.q.q.q.2.2.1++[b]))++[_]).length≤_;have:=h.log;have g1:_≤(d.q.q.q.q.2.2.2.1).length+62:=g1;omega,g2⟩
  ·show (fy d b).1=d.1;unfold fy
   cases ld d.q.q.q.q.1 d.q.q.q.q.2.1 (d.q.q.q.q.2.2.1++[b])<;>rfl
def gh (d:bQ) (r:Int):eC:=(d.1,r,d.q.q.q.2.2.2.2.1,d.q.1,())
def yI (d:bQ) (c:Int) (ms:cG):bQ:=((az d).1,(az d).2.1,(az d).2.2.1,(az d).2.2.2.1,(az d).2.2.2.2.1,(az d).q.1,(az d).q.2.1,(az d).q.2.2.1,(az d).q.2.2.2.1,(az d).q.2.2.2.2.1,(az d).q.q.1,(az d).q.q.2.1,(az d).q.q.2.2.1,(az d).q.q.2.2.2.1,(az d).q.q.2.2.2.2.1,(az d).q.q.q.1,c,d.q.q.q.2.2.2.2.1,c,ms,[gh d c],d.q.q.q.q.2.2.2.1,()) |> fun x=>(d.1,d.2.1,x)
noncomputable def qJ (d:bQ) (c:Int) (ms:cG):bQ:=bif ld c ms [gh d c] then fm (yI d c ms) else yI d c ms
noncomputable def JX (d:bQ) (c:Int) (ms:cG):Bool:=kj d&&(!d.2.1&&(yD c ms&&(decide ((d.1,())∈ms) && !decide (c≤d.q.q.q.2.2.2.1))))
theorem NL {n:Nat} {d:bQ} (h:mm n d) {c:Int} {ms:cG} (hr:oV c ms) (hm:(d.1,())∈ms) (hd:d.2.1=false) (hc:d.q.q.q.2.2.2.1<c):mm (n+1) (yI d c ms)∧DY (gh d c)∧jF [gh d c]:=by
 have hold:=h.q.old;have an8:=h.q.av0;have Wt:fx d.q.1 (d.q.1).length∧(0<d.q.q.q.2.2.2.2.1∨(d.q.1).length=0):=by
  rcases h.q.uP with g | g
  ·have g2:d.q.1=[]:=g.2.2.2.1;rw [g2];exact ⟨sZ,.inr rfl⟩
  ·refine ⟨g.1.items,.inl ?_⟩;have h1:1≤d.2.2.2.1:=g.1.ring.1.1;omega
 have hP:DY (gh d c):=⟨h.q.id,hr.1,⟨an8,by show d.q.q.q.2.2.2.2.1≤c-1;omega⟩,Wt.1,Wt.2⟩;have hl:=(di _ Wt.1).1;have N8:vu (yI d c ms):={
  id:=h.q.id
  yE:=⟨by show 0≤c;have:=hr.1.1;omega,hr.1.2⟩
  dead:=fun e=>by
   have e:d.2.1=true:=e;rw [hd] at e;cases e
  uP:=h.q.uP
  old:=⟨hold.1,by show d.q.q.q.2.2.2.2.1≤c;omega⟩
  nX:=.inr ⟨hr,hm,⟨by show d.q.q.q.2.2.2.2.1+1≤c;omega,Int.le_refl _⟩,fun x hx=>by
   have hx:x∈[gh d c]:=hx;rw [List.mem_singleton] at hx;subst hx;exact ⟨hP,rfl⟩⟩ }
 refine ⟨⟨N8,by show 1≤n+1;omega,by show (d.q.q.q.q.2.2.2.1).length≤_;have:=h.log;omega,h.Zz⟩,hP,?_⟩;exact jF.more (xs:=[]) (by decide) (by show (d.q.1).length≤_;omega)
theorem Tx {n:Nat} {d:bQ} (h:mm n d) {c:Int} {ms:cG} (hr:oV c ms) (hm:(d.1,())∈ms) (hd:d.2.1=false) (hc:d.q.q.q.2.2.2.1<c):mm (n+1) (qJ d c ms)∧(qJ d c ms).1=d.1:=by
 obtain ⟨g,_,hB⟩:=NL h hr hm hd hc;unfold qJ
 cases ld c ms [gh d c]
 ·exact ⟨g,rfl⟩
 ·have mn:¬c=0:=by have:=hr.1.1;omega
  obtain ⟨g1,g2⟩:=G7 (d:=yI d c ms) g.q mn hB h.Zz;refine ⟨⟨Mf g.q mn,Nat.zero_le _,?_,g2⟩,rfl⟩;show (yH (yI d c ms)++[_]).length≤_;have:=h.log;have g1:_≤(d.q.q.q.q.2.2.2.1).length+62:=g1;omega
end Go.TM
set_option linter.unusedSimpArgs false
set_option linter.unusedVariables false
namespace Go.TM
open Go
def iZ (d:bQ) (ms:cG) (b:eC):List eC:=(ms.filter fun m => !decide (m.1=d.1)).map fun _=>b
theorem DZ (d:bQ) (ms:cG) (b:eC) {k:Nat} (hk:k<ms.length):iZ d (ms.take (k+1)) b=iZ d (ms.take k) b++(bif !decide (ms[k].1=d.1) then [b] else []):=by
 unfold iZ;rw [List.take_succ_eq_append_getElem hk,List.filter_append,List.map_append,List.filter_cons,List.filter_nil]
 cases decide (ms[k].1=d.1)<;>rfl
theorem Mg (d:bQ) (ms:cG) (b:eC):(iZ d ms b).length≤ms.length:=by
 unfold iZ;rw [List.length_map];exact List.length_filter_le _ _
noncomputable def dG (d:bQ) (c:Int) (ms:cG):bQ×List eC×Bool:=bif JX d c ms then (qJ d c ms,iZ d ms (gh d c),true) else (E5,[],false)
theorem VY (d z o:bQ) (b:eC) (c:Int) (ms:cG) (hl:ms.length≤1048576) (hb:b.2.2.2.1.length≤1048576) :
  aI kU (d.1,d.2.1,d.2.2.1,d.2.2.2.1,d.2.2.2.2.1,d.q.1,d.q.2.1,d.q.2.2.1,d.q.2.2.2.1,d.q.2.2.2.2.1,d.q.q.1,d.q.q.2.1,d.q.q.2.2.1,d.q.q.2.2.2.1,d.q.q.2.2.2.2.1,d.q.q.q.1,d.q.q.q.2.1,d.q.q.q.2.2.1,d.q.q.q.2.2.2.1,d.q.q.q.2.2.2.2.1,d.q.q.q.q.1,d.q.q.q.q.2.1,d.q.q.q.q.2.2.1,d.q.q.q.q.2.2.2.1,c,ms,z.1,z.2.1,z.2.2.1,z.2.2.2.1,z.2.2.2.2.1,z.q.1,z.q.2.1,z.q.2.2.1,z.q.2.2.2.1,z.q.2.2.2.2.1,z.q.q.1,z.q.q.2.1,z.q.q.2.2.1,z.q.q.2.2.2.1,z.q.q.2.2.2.2.1,z.q.q.q.1,z.q.q.q.2.1,z.q.q.q.2.2.1,z.q.q.q.2.2.2.1,z.q.q.q.2.2.2.2.1,z.q.q.q.q.1,z.q.q.q.q.2.1,z.q.q.q.q.2.2.1,z.q.q.q.q.2.2.2.1,[],o.1,o.2.1,o.2.2.1,o.2.2.2.1,o.2.2.2.2.1,o.q.1,o.q.2.1,o.q.2.2.1,o.q.2.2.2.1,o.q.2.2.2.2.1,o.q.q.1,o.q.q.2.1,o.q.q.2.2.1,o.q.q.2.2.2.1,o.q.q.2.2.2.2.1,o.q.q.q.1,o.q.q.q.2.1,o.q.q.q.2.2.1,o.q.q.q.2.2.2.1,o.q.q.q.2.2.2.2.1,o.q.q.q.q.1,o.q.q.q.q.2.1,o.q.q.q.q.2.2.1,o.q.q.q.q.2.2.2.1,b.1,b.2.1,b.2.2.1,b.2.2.2.1,(0:Int),())=some (.inl (z.1,z.2.1,z.2.2.1,z.2.2.2.1,z.2.2.2.2.1,z.q.1,z.q.2.1,z.q.2.2.1,z.q.2.2.2.1,z.q.2.2.2.2.1,z.q.q.1,z.q.q.2.1,z.q.q.2.2.1,z.q.q.2.2.2.1,z.q.q.2.2.2.2.1,z.q.q.q.1,z.q.q.q.2.1,z.q.q.q.2.2.1,z.q.q.q.2.2.2.1,z.q.q.q.2.2.2.2.1,z.q.q.q.q.1,z.q.q.q.q.2.1,z.q.q.q.q.2.2.1,z.q.q.q.q.2.2.2.1,iZ d ms b,o.1,o.2.1,o.2.2.1,o.2.2.2.1,o.2.2.2.2.1,o.q.1,o.q.2.1,o.q.2.2.1,o.q.2.2.2.1,o.q.2.2.2.2.1,o.q.q.1,o.q.q.2.1,o.q.q.2.2.1,o.q.q.2.2.2.1,o.q.q.2.2.2.2.1,o.q.q.q.1,o.q.q.q.2.1,o.q.q.q.2.2.1,o.q.q.q.2.2.2.1,o.q.q.q.2.2.2.2.1,o.q.q.q.q.1,o.q.q.q.q.2.1,o.q.q.q.q.2.2.1,o.q.q.q.q.2.2.2.1,())):=by
 have l1:=bP (round:=kU) (e:=.inl (z.1,z.2.1,z.2.2.1,z.2.2.2.1,z.2.2.2.2.1,z.q.1,z.q.2.1,z.q.2.2.1,z.q.2.2.2.1,z.q.2.2.2.2.1,z.q.q.1,z.q.q.2.1,z.q.q.2.2.1,z.q.q.2.2.2.1,z.q.q.2.2.2.2.1,z.q.q.q.1,z.q.q.q.2.1,z.q.q.q.2.2.1,z.q.q.q.2.2.2.1,z.q.q.q.2.2.2.2.1,z.q.q.q.q.1,z.q.q.q.q.2.1,z.q.q.q.q.2.2.1,z.q.q.q.q.2.2.2.1,iZ d ms b,o.1,o.2.1,o.2.2.1,o.2.2.2.1,o.2.2.2.2.1,o.q.1,o.q.2.1,o.q.2.2.1,o.q.2.2.2.1,o.q.2.2.2.2.1,o.q.q.1,o.q.q.2.1,o.q.q.2.2.1,o.q.q.2.2.2.1,o.q.q.2.2.2.2.1,o.q.q.q.1,o.q.q.q.2.1,o.q.q.q.2.2.1,o.q.q.q.2.2.2.1,o.q.q.q.2.2.2.2.1,o.q.q.q.q.1,o.q.q.q.q.2.1,o.q.q.q.q.2.2.1,o.q.q.q.q.2.2.2.1,())) ms.length (fun k=>(d.1,d.2.1,d.2.2.1,d.2.2.2.1,d.2.2.2.2.1,d.q.1,d.q.2.1,d.q.2.2.1,d.q.2.2.2.1,d.q.2.2.2.2.1,d.q.q.1,d.q.q.2.1,d.q.q.2.2.1,d.q.q.2.2.2.1,d.q.q.2.2.2.2.1,d.q.q.q.1,d.q.q.q.2.1,d.q.q.q.2.2.1,d.q.q.q.2.2.2.1,d.q.q.q.2.2.2.2.1,d.q.q.q.q.1,d.q.q.q.q.2.1,d.q.q.q.q.2.2.1,d.q.q.q.q.2.2.2.1,c,ms,z.1,z.2.1,z.2.2.1,z.2.2.2.1,z.2.2.2.2.1,z.q.1,z.q.2.1,z.q.2.2.1,z.q.2.2.2.1,z.q.2.2.2.2.1,z.q.q.1,z.q.q.2.1,z.q.q.2.2.1,z.q.q.2.2.2.1,z.q.q.2.2.2.2.1,z.q.q.q.1,z.q.q.q.2.1,z.q.q.q.2.2.1,z.q.q.q.2.2.2.1,z.q.q.q.2.2.2.2.1,z.q.q.q.q.1,z.q.q.q.q.2.1,z.q.q.q.q.2.2.1,z.q.q.q.q.2.2.2.1,iZ d (ms.take k) b,o.1,o.2.1,o.2.2.1,o.2.2.2.1,o.2.2.2.2.1,o.q.1,o.q.2.1,o.q.2.2.1,o.q.2.2.2.1,o.q.2.2.2.2.1,o.q.q.1,o.q.q.2.1,o.q.q.2.2.1,o.q.q.2.2.2.1,o.q.q.2.2.2.2.1,o.q.q.q.1,o.q.q.q.2.1,o.q.q.q.2.2.1,o.q.q.q.2.2.2.1,o.q.q.q.2.2.2.2.1,o.q.q.q.q.1,o.q.q.q.q.2.1,o.q.q.q.q.2.2.1,o.q.q.q.q.2.2.2.1,b.1,b.2.1,b.2.2.1,b.2.2.2.1,((k:Nat):Int),())) (by
  simp only [kU,aA,zO,aF,aJ,cond_false,List.take_length]) (fun k hk=>by
  have ht:=Mg d (ms.take k) b;rw [List.length_take] at ht;simp only [kU,aA,zO,aF,aD hk,au,cond_true,aC,List.getElem?_eq_getElem hk,Option.bind_some,(jG b hb).1,aW (show ((iZ d (ms.take k) b).length+1)*48≤lim by unfold lim;omega),aH (show k<4611686018427387904 by omega),DZ d ms b hk]
  cases decide (ms[k].1=d.1)
  ·rfl
  ·simp only [Bool.not_true,cond_false,List.append_nil])
 exact l1
theorem ZC {n:Nat} {d:bQ} (h:mm n d) (hn:n≤99) (c:Int) (ms:cG) (hl:ms.length≤1048576):sJ d.1 d.2.1 d.2.2.1 d.2.2.2.1 d.2.2.2.2.1 d.q.1 d.q.2.1 d.q.2.2.1 d.q.2.2.2.1 d.q.2.2.2.2.1 d.q.q.1 d.q.q.2.1 d.q.q.2.2.1 d.q.q.2.2.2.1 d.q.q.2.2.2.2.1 d.q.q.q.1 d.q.q.q.2.1 d.q.q.q.2.2.1 d.q.q.q.2.2.2.1 d.q.q.q.2.2.2.2.1 d.q.q.q.q.1 d.q.q.q.q.2.1 d.q.q.q.q.2.2.1 d.q.q.q.q.2.2.2.1 c ms=some ((dG d c ms).1.1,(dG d c ms).1.2.1,(dG d c ms).1.2.2.1,(dG d c ms).1.2.2.2.1,(dG d c ms).1.2.2.2.2.1,(dG d c ms).1.q.1,(dG d c ms).1.q.2.1,(dG d c ms).1.q.2.2.1,(dG d c ms).1.q.2.2.2.1,(dG d c ms).1.q.2.2.2.2.1,(dG d c ms).1.q.q.1,(dG d c ms).1.q.q.2.1,(dG d c ms).1.q.q.2.2.1,(dG d c ms).1.q.q.2.2.2.1,(dG d c ms).1.q.q.2.2.2.2.1,(dG d c ms).1.q.q.q.1,(dG d c ms).1.q.q.q.2.1,(dG d c ms).1.q.q.q.2.2.1,(dG d c ms).1.q.q.q.2.2.2.1,(dG d c ms).1.q.q.q.2.2.2.2.1,(dG d c ms).1.q.q.q.q.1,(dG d c ms).1.q.q.q.q.2.1,(dG d c ms).1.q.q.q.q.2.2.1,(dG d c ms).1.q.q.q.q.2.2.2.1,(dG d c ms).2.1,(dG d c ms).2.2,()):=by
 have hW:=h.small (by omega);obtain ⟨k1,_,k3⟩:=pR d hW;obtain ⟨r1,_,r3⟩:=qo c ms hl;have i1:=Ai ms d.1 hl;have p1:=(vz d hW).1;have cr:=nE c ms hl;unfold sJ dG JX;delta aA cM bf;simp only [k1,r1,i1,p1,cr,Option.bind_some]
 cases h1:kj d
 ·rfl
 cases h2:d.2.1
 case true=>rfl
 cases h3:yD c ms
 ·rfl
 cases h4:decide ((d.1,())∈ms)
 ·rfl
 cases h5:decide (c≤d.q.q.q.2.2.2.1)
 case true=>rfl
 have hr:=r3.1 h3;have hm:=of_decide_eq_true h4;have hc:d.q.q.q.2.2.2.1<c:=by have:=of_decide_eq_false h5;omega
 obtain ⟨g,hP,hB⟩:=NL h hr hm h2 hc;obtain ⟨gm,_⟩:=Tx h hr hm h2 hc;have pm:=(vz (qJ d c ms) (gm.small (by omega))).1;have Wt:(d.q.1).length≤60:=(CI hP).1;have l1:=VY d E5 (yI d c ms) (gh d c) c ms hl (by show (d.q.1).length≤_;omega);have l1:aI kU (d.1,d.2.1,d.2.2.1,d.2.2.2.1,d.2.2.2.2.1,d.q.1,d.q.2.1,d.q.2.2.1,d.q.2.2.2.1,d.q.2.2.2.2.1,d.q.q.1,d.q.q.2.1,d.q.q.2.2.1,d.q.q.2.2.2.1,d.q.q.2.2.2.2.1,d.q.q.q.1,d.q.q.q.2.1,d.q.q.q.2.2.1,d.q.q.q.2.2.2.1,d.q.q.q.2.2.2.2.1,d.q.q.q.q.1,d.q.q.q.q.2.1,d.q.q.q.q.2.2.1,d.q.q.q.q.2.2.2.1,c,ms,0,false,0,0,[],[],[],[],0,0,0,0,0,0,0,0,0,[],0,0,0,[],[],[],[],d.1,d.2.1,d.2.2.1,d.2.2.2.1,d.2.2.2.2.1,d.q.1,d.q.2.1,d.q.2.2.1,d.q.2.2.2.1,d.q.2.2.2.2.1,d.q.q.1,d.q.q.2.1,d.q.q.2.2.1,d.q.q.2.2.2.1,d.q.q.2.2.2.2.1,d.q.q.q.1,d.q.q.q.2.1,d.q.q.q.2.2.1,c,d.q.q.q.2.2.2.2.1,c,ms,[(d.1,c,d.q.q.q.2.2.2.2.1,d.q.1,())],d.q.q.q.q.2.2.2.1,d.1,c,d.q.q.q.2.2.2.2.1,d.q.1,(0:Int),())=_:=l1;have ah:=(E4 c ms [gh d c] hl hB).1;have hg:(d.q.q.q.q.2.2.2.1).length≤1048576:=by have:=h.log;omega
 have iv:=(vC (yI d c ms) hr hm hB (by show (d.2.2.2.2.1).length≤_;have:=(Ay h.q).1;omega) hg).1;rw [h2] at l1;obtain ⟨o,ho⟩:∃o,o=yI d c ms:=⟨_,rfl⟩;have ah:kS o.q.q.q.q.1 o.q.q.q.q.2.1 o.q.q.q.q.2.2.1=some (ld c ms [gh d c],()):=by rw [ho];exact ah
 rw [←ho] at iv l1;unfold qJ at pm ⊢;rw [←ho] at pm ⊢;simp only [Bool.not_true,Bool.not_false,Bool.and_self,cond_false,cond_true,List.nil_append,aW (show (0+(d.q.1).length)*40≤lim by unfold lim;omega),l1,bU,Option.bind_some,ah]
 cases hh:ld c ms [gh d c]
 ·rw [hh] at pm;simp only [cond_false] at pm ⊢;rw [pm];rfl
 ·rw [hh] at pm;simp only [cond_true] at pm ⊢;rw [iv];simp only [Option.bind_some];rw [pm];rfl
end Go.TM
set_option linter.unusedSimpArgs false
set_option linter.unusedVariables false
namespace Go.TM
open Go
theorem yJ {ms:cG} (h:Nt ms ms.length) {i j:Nat} (hj:j<ms.length) (Z1:i<j):(ms[i]'(by omega)).1<ms[j].1:=by
 have key:∀(d i:Nat) (hi:i+d+1<ms.length),ms[i].1<ms[i+d+1].1:=by
  intro d
  induction d with
  |zero=>intro i hi;exact (h (i+1) hi hi).2 (by omega)
  |succ d ih=>
   intro i hi;have h1:=ih i (by omega);have h2:=(h (i+(d+1)+1) hi hi).2 (by omega);have e:i+(d+1)+1-1=i+d+1:=by omega
   simp only [e] at h2;omega
 have:=key (j-i-1) i (by omega);simpa [show i+(j-i-1)+1=j by omega] using this
theorem filter_one {ms:cG} (h:Nt ms ms.length) {id:Int} (hm:(id,())∈ms):(ms.filter fun m => !decide (m.1=id)).length=ms.length-1:=by
 obtain ⟨k,hk,e⟩:=List.mem_iff_getElem.1 hm;have e:ms[k].1=id:=congrArg Prod.fst e;have h1:(ms.take k).filter (fun m => !decide (m.1=id))=ms.take k:=List.filter_eq_self.2 fun x hx=>by
  obtain ⟨i,hi,rfl⟩:=List.mem_iff_getElem.1 hx;rw [List.length_take] at hi;rw [List.getElem_take];have:=yJ h hk (show i<k by omega);rw [decide_eq_false (show ¬(ms[i]'(by omega)).1=id by omega)];rfl
 have h2:(ms.drop (k+1)).filter (fun m => !decide (m.1=id))=ms.drop (k+1):=List.filter_eq_self.2 fun x hx=>by
  obtain ⟨i,hi,rfl⟩:=List.mem_iff_getElem.1 hx;rw [List.length_drop] at hi;rw [List.getElem_drop];have:=yJ h (show k+1+i<ms.length by omega) (show k<k+1+i by omega);rw [decide_eq_false (show ¬(ms[k+1+i]'(by omega)).1=id by omega)];rfl
 have h3:ms=ms.take k++ms[k]::ms.drop (k+1):=by rw [←List.drop_eq_getElem_cons hk,List.take_append_drop]
 have h4:ms.filter (fun m => !decide (m.1=id))=ms.take k++ms.drop (k+1):=by
  rw [h3,List.filter_append,List.filter_cons,decide_eq_true e,←h3];simp only [Bool.not_true,Bool.false_eq_true,if_false];rw [h1,h2]
 rw [h4,List.length_append,List.length_take,List.length_drop];omega
theorem VZ {d:bQ} {ms:cG} (h:Nt ms ms.length) (hm:(d.1,())∈ms) (b:eC):iZ d ms b=List.replicate (ms.length-1) b:=by
 unfold iZ;rw [List.map_const',filter_one h hm]
theorem R5 (z o:bQ) (b:eC) (c:Int) (ms:cG) (m:Nat) (hl:m≤1048576) (hb:b.2.2.2.1.length≤1048576) :
  aI kV (c,ms,z.1,z.2.1,z.2.2.1,z.2.2.2.1,z.2.2.2.2.1,z.q.1,z.q.2.1,z.q.2.2.1,z.q.2.2.2.1,z.q.2.2.2.2.1,z.q.q.1,z.q.q.2.1,z.q.q.2.2.1,z.q.q.2.2.2.1,z.q.q.2.2.2.2.1,z.q.q.q.1,z.q.q.q.2.1,z.q.q.q.2.2.1,z.q.q.q.2.2.2.1,z.q.q.q.2.2.2.2.1,z.q.q.q.q.1,z.q.q.q.q.2.1,z.q.q.q.q.2.2.1,z.q.q.q.q.2.2.2.1,o.1,o.2.1,o.2.2.1,o.2.2.2.1,o.2.2.2.2.1,o.q.1,o.q.2.1,o.q.2.2.1,o.q.2.2.2.1,o.q.2.2.2.2.1,o.q.q.1,o.q.q.2.1,o.q.q.2.2.1,o.q.q.2.2.2.1,o.q.q.2.2.2.2.1,o.q.q.q.1,o.q.q.q.2.1,o.q.q.q.2.2.1,o.q.q.q.2.2.2.1,o.q.q.q.2.2.2.2.1,o.q.q.q.q.1,o.q.q.q.q.2.1,o.q.q.q.q.2.2.1,o.q.q.q.q.2.2.2.1,b.1,b.2.1,b.2.2.1,b.2.2.2.1,[],((m:Nat):Int),(0:Int),())=some (.inl (c,ms,z.1,z.2.1,z.2.2.1,z.2.2.2.1,z.2.2.2.2.1,z.q.1,z.q.2.1,z.q.2.2.1,z.q.2.2.2.1,z.q.2.2.2.2.1,z.q.q.1,z.q.q.2.1,z.q.q.2.2.1,z.q.q.2.2.2.1,z.q.q.2.2.2.2.1,z.q.q.q.1,z.q.q.q.2.1,z.q.q.q.2.2.1,z.q.q.q.2.2.2.1,z.q.q.q.2.2.2.2.1,z.q.q.q.q.1,z.q.q.q.q.2.1,z.q.q.q.q.2.2.1,z.q.q.q.q.2.2.2.1,o.1,o.2.1,o.2.2.1,o.2.2.2.1,o.2.2.2.2.1,o.q.1,o.q.2.1,o.q.2.2.1,o.q.2.2.2.1,o.q.2.2.2.2.1,o.q.q.1,o.q.q.2.1,o.q.q.2.2.1,o.q.q.2.2.2.1,o.q.q.2.2.2.2.1,o.q.q.q.1,o.q.q.q.2.1,o.q.q.q.2.2.1,o.q.q.q.2.2.2.1,o.q.q.q.2.2.2.2.1,o.q.q.q.q.1,o.q.q.q.q.2.1,o.q.q.q.q.2.2.1,o.q.q.q.q.2.2.2.1,List.replicate m b,())):=by
 have l1:=bP (round:=kV) (e:=.inl (c,ms,z.1,z.2.1,z.2.2.1,z.2.2.2.1,z.2.2.2.2.1,z.q.1,z.q.2.1,z.q.2.2.1,z.q.2.2.2.1,z.q.2.2.2.2.1,z.q.q.1,z.q.q.2.1,z.q.q.2.2.1,z.q.q.2.2.2.1,z.q.q.2.2.2.2.1,z.q.q.q.1,z.q.q.q.2.1,z.q.q.q.2.2.1,z.q.q.q.2.2.2.1,z.q.q.q.2.2.2.2.1,z.q.q.q.q.1,z.q.q.q.q.2.1,z.q.q.q.q.2.2.1,z.q.q.q.q.2.2.2.1,o.1,o.2.1,o.2.2.1,o.2.2.2.1,o.2.2.2.2.1,o.q.1,o.q.2.1,o.q.2.2.1,o.q.2.2.2.1,o.q.2.2.2.2.1,o.q.q.1,o.q.q.2.1,o.q.q.2.2.1,o.q.q.2.2.2.1,o.q.q.2.2.2.2.1,o.q.q.q.1,o.q.q.q.2.1,o.q.q.q.2.2.1,o.q.q.q.2.2.2.1,o.q.q.q.2.2.2.2.1,o.q.q.q.q.1,o.q.q.q.q.2.1,o.q.q.q.q.2.2.1,o.q.q.q.q.2.2.2.1,List.replicate m b,())) m (fun k=>(c,ms,z.1,z.2.1,z.2.2.1,z.2.2.2.1,z.2.2.2.2.1,z.q.1,z.q.2.1,z.q.2.2.1,z.q.2.2.2.1,z.q.2.2.2.2.1,z.q.q.1,z.q.q.2.1,z.q.q.2.2.1,z.q.q.2.2.2.1,z.q.q.2.2.2.2.1,z.q.q.q.1,z.q.q.q.2.1,z.q.q.q.2.2.1,z.q.q.q.2.2.2.1,z.q.q.q.2.2.2.2.1,z.q.q.q.q.1,z.q.q.q.q.2.1,z.q.q.q.q.2.2.1,z.q.q.q.q.2.2.2.1,o.1,o.2.1,o.2.2.1,o.2.2.2.1,o.2.2.2.2.1,o.q.1,o.q.2.1,o.q.2.2.1,o.q.2.2.2.1,o.q.2.2.2.2.1,o.q.q.1,o.q.q.2.1,o.q.q.2.2.1,o.q.q.2.2.2.1,o.q.q.2.2.2.2.1,o.q.q.q.1,o.q.q.q.2.1,o.q.q.q.2.2.1,o.q.q.q.2.2.2.1,o.q.q.q.2.2.2.2.1,o.q.q.q.q.1,o.q.q.q.q.2.1,o.q.q.q.q.2.2.1,o.q.q.q.q.2.2.2.1,b.1,b.2.1,b.2.2.1,b.2.2.2.1,List.replicate k b,((m:Nat):Int),((k:Nat):Int),())) (by
  simp only [kV,aA,Ad,aF,aJ,cond_false]) (fun k hk=>by
  simp only [kV,aA,Ad,aF,aD hk,cond_true];rw [(jG b hb).2];simp only [Option.bind_some,List.length_replicate,aW (show (k+1)*48≤lim by unfold lim;omega),cond_true,aH (show k<4611686018427387904 by omega),List.replicate_succ'])
 exact l1
theorem ZD {d:bQ} {c:Int} {ms:cG} (hr:oV c ms) (hm:(d.1,())∈ms) (hP:DY (gh d c)) (hb:(d.q.1).length≤1048576):ld c ms [gh d c]=decide (((List.length ms:Nat):Int)=1):=by
 have je:qU (gh d c)=true:=(Nu (gh d c) hb).2 hP;have Wq:∀x:Int,(il [gh d c] c x).isSome=decide (d.1=x):=fun x=>by
  unfold il;rw [List.find?_cons,List.find?_nil,je];show (match decide (d.1=x)&&(decide (c=c)&&true) with | true=>some (gh d c) | false=>none).isSome=_;rw [decide_eq_true (rfl:c=c)]
  cases decide (d.1=x)<;>rfl
 have hl:=hr.2.1.1;unfold ld
 by_cases h1:ms.length=1
 ·rw [aq (show ((List.length ms:Nat):Int)=1 by omega)];refine List.all_eq_true.2 fun x hx => ?_
  obtain ⟨i,hi,rfl⟩:=List.mem_iff_getElem.1 hx;obtain ⟨j,hj,e⟩:=List.mem_iff_getElem.1 hm;have:i=j:=by omega
  subst this;rw [Wq,e];exact decide_eq_true rfl
 ·rw [ak (show ¬((List.length ms:Nat):Int)=1 by omega)];have h01:=yJ hr.2.2 (show 1<ms.length by omega) (show 0<1 by omega)
  cases hh:ms.all fun m=>(il [gh d c] c m.1).isSome
  ·rfl
  ·have h2:=List.all_eq_true.1 hh _ (List.getElem_mem (show 0<ms.length by omega));have h3:=List.all_eq_true.1 hh _ (List.getElem_mem (show 1<ms.length by omega));rw [Wq] at h2 h3;have h2:=of_decide_eq_true h2;have h3:=of_decide_eq_true h3;omega
theorem P0 {n:Nat} {d:bQ} (h:mm n d) (hn:n≤99) (c:Int) (ms:cG) (hl:ms.length≤1048576):sR d.1 d.2.1 d.2.2.1 d.2.2.2.1 d.2.2.2.2.1 d.q.1 d.q.2.1 d.q.2.2.1 d.q.2.2.2.1 d.q.2.2.2.2.1 d.q.q.1 d.q.q.2.1 d.q.q.2.2.1 d.q.q.2.2.2.1 d.q.q.2.2.2.2.1 d.q.q.q.1 d.q.q.q.2.1 d.q.q.q.2.2.1 d.q.q.q.2.2.2.1 d.q.q.q.2.2.2.2.1 d.q.q.q.q.1 d.q.q.q.q.2.1 d.q.q.q.q.2.2.1 d.q.q.q.q.2.2.2.1 c ms=some ((dG d c ms).1.1,(dG d c ms).1.2.1,(dG d c ms).1.2.2.1,(dG d c ms).1.2.2.2.1,(dG d c ms).1.2.2.2.2.1,(dG d c ms).1.q.1,(dG d c ms).1.q.2.1,(dG d c ms).1.q.2.2.1,(dG d c ms).1.q.2.2.2.1,(dG d c ms).1.q.2.2.2.2.1,(dG d c ms).1.q.q.1,(dG d c ms).1.q.q.2.1,(dG d c ms).1.q.q.2.2.1,(dG d c ms).1.q.q.2.2.2.1,(dG d c ms).1.q.q.2.2.2.2.1,(dG d c ms).1.q.q.q.1,(dG d c ms).1.q.q.q.2.1,(dG d c ms).1.q.q.q.2.2.1,(dG d c ms).1.q.q.q.2.2.2.1,(dG d c ms).1.q.q.q.2.2.2.2.1,(dG d c ms).1.q.q.q.q.1,(dG d c ms).1.q.q.q.q.2.1,(dG d c ms).1.q.q.q.q.2.2.1,(dG d c ms).1.q.q.q.q.2.2.2.1,(dG d c ms).2.1,(dG d c ms).2.2,()):=by
 have hW:=h.small (by omega);obtain ⟨_,k2,k3⟩:=pR d hW;obtain ⟨_,r2,r3⟩:=qo c ms hl;have i2:=Hy ms d.1 hl;have p2:=(vz d hW).2;have cr:=lB c ms hl;unfold sR dG JX;delta aA cM bf;simp only [k2,r2,i2,Option.bind_some]
 cases h2:d.2.1
 case true=>cases kj d<;>rfl
 cases h4:decide ((d.1,())∈ms)
 ·cases kj d<;>cases yD c ms<;>rfl
 cases h5:decide (c≤d.q.q.q.2.2.2.1)
 case true=>cases kj d<;>cases yD c ms<;>rfl
 cases h3:yD c ms
 ·cases kj d<;>rfl
 cases h1:kj d
 ·rfl
 have hr:=r3.1 h3;have hm:=of_decide_eq_true h4;have hc:d.q.q.q.2.2.2.1<c:=by have:=of_decide_eq_false h5;omega
 obtain ⟨g,hP,hB⟩:=NL h hr hm h2 hc;have Wt:(d.q.1).length≤60:=(CI hP).1;have hlm:=hr.2.1;have l1:=R5 E5 (yI d c ms) (gh d c) c ms (ms.length-1) (by omega) (by show (d.q.1).length≤_;omega);have l1:aI kV (c,ms,(0:Int),false,(0:Int),(0:Int),[],[],[],[],(0:Int),(0:Int),(0:Int),(0:Int),(0:Int),(0:Int),(0:Int),(0:Int),(0:Int),[],(0:Int),(0:Int),(0:Int),[],[],[],d.1,d.2.1,d.2.2.1,d.2.2.2.1,d.2.2.2.2.1,d.q.1,d.q.2.1,d.q.2.2.1,d.q.2.2.2.1,d.q.2.2.2.2.1,d.q.q.1,d.q.q.2.1,d.q.q.2.2.1,d.q.q.2.2.2.1,d.q.q.2.2.2.2.1,d.q.q.q.1,d.q.q.q.2.1,d.q.q.q.2.2.1,c,d.q.q.q.2.2.2.2.1,c,ms,[(d.1,c,d.q.q.q.2.2.2.2.1,d.q.1,())],d.q.q.q.q.2.2.2.1,d.1,c,d.q.q.q.2.2.2.2.1,d.q.1,[],((ms.length-1:Nat):Int),(0:Int),())=_:=l1;have hg:(d.q.q.q.q.2.2.2.1).length≤1048576:=by have:=h.log;omega
 have iv:=(vC (yI d c ms) hr hm hB (by show (d.2.2.2.2.1).length≤_;have:=(Ay h.q).1;omega) hg).2;have hw:IntKind.i64.wrap (((List.length ms:Nat):Int)-1)=((ms.length-1:Nat):Int):=by rw [fj]<;>omega
 have ci:=xD d.q.1 (by omega);rw [h2] at p2;obtain ⟨o,ho⟩:∃o,o=yI d c ms:=⟨_,rfl⟩;rw [←ho] at iv l1;unfold qJ;rw [←ho,ZD hr hm hP (by omega),VZ hr.2.2 hm];simp only [Bool.not_true,Bool.not_false,Bool.and_self,cond_false,cond_true,p2,cr,ci,hw,l1,bU,Option.bind_some]
 cases decide (((List.length ms:Nat):Int)=1)
 ·simp only [cond_false]
 ·simp only [cond_true];rw [iv];rfl
end Go.TM
set_option linter.unusedSimpArgs false
set_option linter.unusedVariables false
namespace Go.TM
open Go
def P1 (xs:List (Int×(List (Int×Unit))×Unit)):Sum ((List (Int×(List (Int×Unit))×Unit))×Unit) (Bool×Unit)→Sum ((List (Int×(List (Int×Unit))×Unit))×Unit) (Bool×Unit)→Prop
 |.inl a,.inl b=>a.1=xs∧b.1=xs
 |.inr a,.inr b=>a.1=b.1
 |_,_=>False
theorem R6 (xs:List (Int×(List (Int×Unit))×Unit)) (h:List.length xs+wl rY xs≤1048576) :
  ∃e f,aI gj (xs,(0:Int),())=some e∧aI nb (xs,xs,((List.length xs:Nat):Int),(0:Int),())=some f∧P1 xs e f:=by
 refine oB xs.length (fun k x y=>x=(xs,((k:Nat):Int),())∧y=(xs,xs,((List.length xs:Nat):Int),((k:Nat):Int),())) (P1 xs) ?_ ⟨rfl,rfl⟩
 rintro k x y hk ⟨rfl,rfl⟩
 by_cases dB:k<xs.length
 ·have hw:=FK rY xs _ (List.getElem_mem dB);have hw:List.length xs[k].2.1+wl kY xs[k].2.1≤wl rY xs:=hw;obtain ⟨b,r1,r2,_⟩:=vN xs[k].1 xs[k].2.1 (by omega);simp only [gj,mU,nb,ax,uA,aD dB,au,cond_true,aC,List.getElem?_eq_getElem dB,Option.bind_some,r1,r2,aH (show k<4611686018427387904 by omega)]
  cases b
  ·exact .inl ⟨.inr (false,()),.inr (false,()),rfl,rfl,rfl⟩
  ·cases decide (xs[k].1=((k+1:Nat):Int))
   ·exact .inl ⟨.inr (false,()),.inr (false,()),rfl,rfl,rfl⟩
   ·exact .inr ⟨dB,_,_,rfl,rfl,rfl,rfl⟩
 ·have:k=xs.length:=by omega
  subst this;exact .inl ⟨.inl (xs,()),.inl (xs,()),by simp only [gj,mU,aJ,cond_false],by simp only [nb,ax,uA,aJ,cond_false],rfl,rfl⟩
theorem R7 (xs:List (Int×(List (Int×Unit))×Unit)) (h:List.length xs+wl rY xs≤1048576):∃b,pa xs=some (b,())∧vo xs=some (b,()):=by
 obtain ⟨e,f,h1,h2,h3⟩:=R6 xs h;unfold pa vo;rw [h1,h2]
 cases e with
 |inl e=>cases f with
  |inl f=>
   simp only [bU,Option.bind_some,ni,qI];exact ⟨_,rfl,by rw [h3.1,h3.2]⟩
  |inr f=>exact h3.elim
 |inr e=>cases f with
  |inl f=>exact h3.elim
  |inr f=>exact ⟨e.1,rfl,by rw [show e.1=f.1 from h3];rfl⟩
end Go.TM
set_option linter.unusedSimpArgs false
set_option linter.unusedVariables false
namespace Go.TM
open Go
abbrev Ci:Type:=Int×(List (Int×Unit))×Unit
theorem Mh (xs:List Ci) {k:Nat} (hk:k<xs.length) (h:xs.length+wl rY xs≤1048576):xs[k].2.1.length≤1048576:=by
 have hw:=FK rY xs xs[k] (List.getElem_mem hk);have:rY xs[k]=List.length xs[k].2.1+wl kY xs[k].2.1:=rfl;omega
theorem G8 (c:Int) (xs:List (Int×Unit)) (h:xs.length≤1048576):aN c xs=some (c,xs,())∧bN c xs=some (c,xs,()):=by
 constructor
 ·unfold aN;rw [aW (show (0+xs.length)*8≤lim by unfold lim;omega)];rfl
 ·unfold bN;rw [kJ _ h];rfl
theorem JY (xs:List Ci) (h:xs.length+wl rY xs≤1048576):th xs=some (xs,()):=by
 have hl:=bP (round:=jL) (e:=.inl (xs,())) xs.length (fun k=>(xs,xs.take k,((k:Nat):Int),())) (by
  simp only [jL,sB,aJ,cond_false,List.take_length]) (fun k hk=>by
  simp only [jL,sB,aD hk,au,cond_true,aC,List.getElem?_eq_getElem hk,Option.bind_some,(G8 xs[k].1 xs[k].2.1 (Mh xs hk h)).1,List.length_take,Nat.min_eq_left (Nat.le_of_lt hk),aW (show (k+1)*32≤lim by unfold lim;omega),aH (show k<4611686018427387904 by omega)];rw [List.take_succ_eq_append_getElem hk])
 have hl:aI jL (xs,[],(0:Int),())=_:=hl;unfold th;rw [hl];rfl
abbrev an9:Type:=Int×Bool×Int×Int×(List (Int×Unit))×aZ×(List (Int×Unit))×(List (ByteArray×Unit))×Int×Int×Int×Int×Int×Int×Int×Int×Int×(List (Int×Unit))×Int×Int×Int×(List (Int×Unit))×(List eC)×(List (Int×Int×(List (Int×Unit))×Int×Int×Int×ByteArray×(List (Int×Unit))×Unit))×Unit
def D0 (id:Int):an9:=(id,false,0,0,[],[],[],[],0,0,0,0,0,0,0,0,0,[],0,0,0,[],[],[],())
theorem P2 {id:Int} (h:1≤id∧id≤5):rC id=some (id,false,0,0,[],[],[],[],0,0,0,0,0,0,0,0,0,[],0,0,0,[],[],[],true,()):=by
 unfold rC;rw [ni,aq h.1,aq h.2];rfl
theorem P3 {id:Int} (h:1≤id∧id≤5):rT id=some (id,false,0,0,[],[],[],[],0,0,0,0,0,0,0,0,0,[],0,0,0,[],[],[],true,()):=by
 unfold rT;rw [pw,aq h.1,aq h.2];rfl
def kh (n:Nat):List an9:=(List.range n).map fun (i:Nat)=>D0 ((i:Int)+1)
theorem xH (n:Nat):(kh n).length=n:=by unfold kh;simp
theorem Ff (n:Nat):kh (n+1)=kh n++[D0 ((n:Int)+1)]:=by unfold kh;rw [List.range_succ,List.map_append];rfl
theorem V1 (xs:List Ci):aI jM ([],[],[],[],xs,[],[],[],(1:Int),())=some (.inl ([],[],[],[],xs,kh 5,[],[],())):=by
 have hl:=bP (round:=jM) (e:=.inl ([],[],[],[],xs,kh 5,[],[],())) 5 (fun k=>([],[],[],[],xs,kh k,[],[],((k:Nat):Int)+1,())) (by
  simp only [jM,bz,sC,bf];rw [ak (show ¬((5:Nat):Int)+1≤5 by omega)];rfl) (fun k hk=>by
  simp only [jM,bz,sC,bf,aq (show ((k:Nat):Int)+1≤5 by omega),cond_true,P2 (show 1≤((k:Nat):Int)+1∧((k:Nat):Int)+1≤5 by omega),Option.bind_some,xH,aW (show (k+1)*320≤lim by unfold lim;omega),fj (show -9223372036854775808≤((k:Nat):Int)+1+1 by omega) (by omega),Ff];rfl)
 exact hl
theorem V2 (xs:List Ci):aI jR ([],[],[],[],xs,[],[],[],(1:Int),())=some (.inl ([],[],[],[],xs,kh 5,[],[],())):=by
 have hl:=bP (round:=jR) (e:=.inl ([],[],[],[],xs,kh 5,[],[],())) 5 (fun k=>([],[],[],[],xs,kh k,[],[],((k:Nat):Int)+1,())) (by
  simp only [jR,bz,sM,bf];rw [ak (show ¬((5:Nat):Int)+1≤5 by omega)];rfl) (fun k hk=>by
  simp only [jR,bz,sM,bf,aq (show ((k:Nat):Int)+1≤5 by omega),cond_true,P3 (show 1≤((k:Nat):Int)+1∧((k:Nat):Int)+1≤5 by omega),Option.bind_some,xH,aW (show (k+1)*320≤lim by unfold lim;omega),fj (show -9223372036854775808≤((k:Nat):Int)+1+1 by omega) (by omega),Ff];rfl)
 exact hl
theorem R8 (xs:List Ci) (h:xs.length+wl rY xs≤1048576):aI jQ ([],[],[],[],[],[],[],[],xs,((xs.length:Nat):Int),(0:Int),())=some (.inl ([],[],[],[],xs,[],[],[],())):=by
 have hl:=bP (round:=jQ) (e:=.inl ([],[],[],[],xs,[],[],[],())) xs.length (fun k=>([],[],[],[],xs.take k,[],[],[],xs,((xs.length:Nat):Int),((k:Nat):Int),())) (by
  simp only [jQ,bz,sL,aJ,cond_false,List.take_length]) (fun k hk=>by
  simp only [jQ,bz,sL,aD hk,au,cond_true,aC,List.getElem?_eq_getElem hk,Option.bind_some,(G8 xs[k].1 xs[k].2.1 (Mh xs hk h)).2,List.length_take,Nat.min_eq_left (Nat.le_of_lt hk),aW (show (k+1)*32≤lim by unfold lim;omega),aH (show k<4611686018427387904 by omega)];rw [List.take_succ_eq_append_getElem hk])
 exact hl
end Go.TM
set_option linter.unusedSimpArgs false
set_option linter.unusedVariables false
namespace Go.TM
open Go
def gx (code:List (Int×Unit)) (at_:Int):Prop:=0≤at_∧at_≤((code.length:Nat):Int)∧code.length≤1048576
theorem HA (y:Int):0≤IntKind.i64.wrap ((BitVec.ofInt IntKind.i64.bits y &&& BitVec.ofInt IntKind.i64.bits (255:Int)).toNat:Int)∧IntKind.i64.wrap ((BitVec.ofInt IntKind.i64.bits y &&& BitVec.ofInt IntKind.i64.bits (255:Int)).toNat:Int)≤255:=by
 have h:(BitVec.ofInt IntKind.i64.bits y &&& BitVec.ofInt IntKind.i64.bits (255:Int)).toNat≤255:=by
  rw [BitVec.toNat_and];exact Nat.le_trans Nat.and_le_right (by decide)
 rw [fj (by omega) (by omega)];omega
def acJ (code:List (Int×Unit)) (o:Option (Int×(List (Int×Unit))×Int×Int×Unit)) (lo hi:Int):Prop:=
 ∃v ZE s',o=some (v,code,ZE,s',())∧lo≤v∧v<hi∧gx code ZE
theorem Fg (code:List (Int×Unit)) (at_ CW:Int) (h:gx code at_):acJ code (kP code at_ CW) 0 256:=by
 obtain ⟨h0,h1,h2⟩:=h;unfold kP
 by_cases dB:at_<((List.length code:Nat):Int)
 ·obtain ⟨k,rfl⟩:=Int.eq_ofNat_of_zero_le h0;have hk:k<code.length:=by omega
  rw [aq dB];simp only [cond_true,au,aC,List.getElem?_eq_getElem hk,Option.bind_some,aH (show k<4611686018427387904 by omega)];exact ⟨_,_,_,rfl,(HA _).1,by have:=(HA (IntKind.i64.wrap ((IntKind.i64.wrap ((BitVec.ofInt IntKind.i64.bits (IntKind.i64.wrap ((BitVec.ofInt IntKind.i64.bits (Int.fdiv (IntKind.i64.wrap ((IntKind.i64.wrap (CW*(6364136223846793005:Int)))+(1442695040888963407:Int))) (2 ^ (min 33 IntKind.i64.bits))) ^^^ BitVec.ofInt IntKind.i64.bits (Int.fdiv (IntKind.i64.wrap ((IntKind.i64.wrap (CW*(6364136223846793005:Int)))+(1442695040888963407:Int))) (2 ^ (min 45 IntKind.i64.bits)))).toNat:Int)) &&& BitVec.ofInt IntKind.i64.bits (255:Int)).toNat:Int))+(IntKind.i64.wrap code[k].1)))).2;exact Int.lt_add_one_of_le this,by omega,by omega,h2⟩
 ·rw [ak dB];exact ⟨_,_,_,rfl,(HA _).1,Int.lt_add_one_of_le (HA _).2,h0,h1,h2⟩
theorem D1 {v n:Int} (hv:0≤v) (hn:0<n):0≤Int.tmod v n∧Int.tmod v n<n:=by
 obtain ⟨a,rfl⟩:=Int.eq_ofNat_of_zero_le hv;obtain ⟨b,rfl⟩:=Int.eq_ofNat_of_zero_le (Int.le_of_lt hn);have:Int.tmod ((a:Nat):Int) ((b:Nat):Int)=((a % b:Nat):Int):=rfl;rw [this];have:=Nat.mod_lt a (show 0<b by omega);omega
theorem sd (code:List (Int×Unit)) (at_ CW n:Int) (h:gx code at_) (hn:0<n):acJ code (ga code at_ CW n) 0 n:=by
 unfold ga;rw [ak (show ¬n≤0 by omega),ak (show ¬n=0 by omega)]
 by_cases aoa:n≤256
 ·obtain ⟨v,a1,s1,e1,v1,v2,d1⟩:=Fg code at_ CW h;rw [aq aoa];simp only [cond_false,cond_true,e1,Option.bind_some];exact ⟨_,_,_,rfl,(D1 v1 hn).1,(D1 v1 hn).2,d1⟩
 ·obtain ⟨v,a1,s1,e1,v1,v2,d1⟩:=Fg code at_ CW h;obtain ⟨w,a2,s2,e2,w1,w2,d2⟩:=Fg code a1 s1 d1;obtain ⟨x,a3,s3,e3,x1,x2,d3⟩:=Fg code a2 s2 d2;obtain ⟨y,a4,s4,e4,y1,y2,d4⟩:=Fg code a3 s3 d3;rw [ak aoa];simp only [cond_false,e1,e2,e3,e4,Option.bind_some];have hw:IntKind.i64.wrap ((IntKind.i64.wrap ((IntKind.i64.wrap ((IntKind.i64.wrap (v*(16777216:Int)))+(IntKind.i64.wrap (w*(65536:Int)))))+(IntKind.i64.wrap (x*(256:Int)))))+y)=v*16777216+w*65536+x*256+y:=by
   rw [fj (show -9223372036854775808≤v*(16777216:Int) by omega) (by omega),fj (show -9223372036854775808≤w*(65536:Int) by omega) (by omega),fj (show -9223372036854775808≤x*(256:Int) by omega) (by omega),
    fj (show -9223372036854775808≤v*(16777216:Int)+w*65536 by omega) (by omega),fj (show -9223372036854775808≤v*(16777216:Int)+w*65536+x*256 by omega) (by omega),fj (by omega) (by omega)]
  rw [hw];have hr:=D1 (v:=v*16777216+w*65536+x*256+y) (by omega) hn;exact ⟨_,_,_,rfl,hr.1,hr.2,d4⟩
theorem HB (code:List (Int×Unit)) (at_ CW n:Int) (h:gx code at_) (hn:0<n):∃b ZE s',mE code at_ CW n=some (b,code,ZE,s',())∧gx code ZE:=by
 obtain ⟨v,a1,s1,e1,v1,v2,d1⟩:=sd code at_ CW n h hn;unfold mE;simp only [e1,Option.bind_some];exact ⟨_,_,_,rfl,d1⟩
def aiy {B:Type} (code:List (Int×Unit)):Sum ((List (Int×Unit))×Int×Unit) B→Prop
 |.inl y=>y.1=code
 |.inr _=>False
theorem aiz (code:List (Int×Unit)) (h:code.length≤1048576):∃s',xy code=some (code,(0:Int),s',()):=by
 unfold xy;obtain ⟨e,he,hq⟩:=dU (round:=oE) (x:=(code,IntKind.i64.wrap ((27101:Int)+((List.length code:Nat):Int)),((0:Nat):Int),())) code.length (fun k x=>∃s,x=(code,s,((k:Nat):Int),())) (aiy code) (by
  rintro x ⟨s,rfl⟩
  exact ⟨.inl (code,s,()),by simp only [oE,wi,aJ,cond_false],rfl⟩) (by
  rintro k x hk ⟨s,rfl⟩
  simp only [oE,wi,aD hk,au,cond_true,aC,List.getElem?_eq_getElem hk,Option.bind_some,aH (show k<4611686018427387904 by omega)]
  cases decide (((k:Nat):Int)<(4000:Int))
  ·exact .inl ⟨.inl (code,s,()),rfl,rfl⟩
  ·exact .inr ⟨_,rfl,_,rfl⟩) ⟨_,rfl⟩
 rw [show ((0:Nat):Int)=(0:Int) from rfl] at he;rw [he]
 cases e with
 |inr e=>exact hq.elim
 |inl e=>
  have hq:e.1=code:=hq;exact ⟨e.2.1,by rw [←hq];rfl⟩
theorem Tz (code:List (Int×Unit)) (at_ CW:Int) (l:List (Int×Unit)) (h:gx code at_) (h0:0<l.length):∃v ZE s',mV code at_ CW l=some (v,code,ZE,s',())∧(v,())∈l∧gx code ZE:=by
 obtain ⟨v,a1,s1,e1,v1,v2,d1⟩:=sd code at_ CW ((l.length:Nat):Int) h (by omega);obtain ⟨k,rfl⟩:=Int.eq_ofNat_of_zero_le v1;have hk:k<l.length:=by omega
 unfold mV;simp only [e1,Option.bind_some,au,cond_true,aC,List.getElem?_eq_getElem hk];exact ⟨_,_,_,rfl,List.getElem_mem hk,d1⟩
end Go.TM
set_option linter.unusedSimpArgs false
set_option linter.unusedVariables false
namespace Go.TM
open Go
end Go.TM
set_option linter.unusedSimpArgs false
set_option linter.unusedVariables false
namespace Go.TM
open Go
theorem ZF (code:List (Int×Unit)) (at_ CW:Int) (l:List (ByteArray×Unit)) (h:gx code at_) (h0:0<l.length):∃v ZE s',vd code at_ CW l=some (v,code,ZE,s',())∧(v,())∈l∧gx code ZE:=by
 obtain ⟨v,a1,s1,e1,v1,v2,d1⟩:=sd code at_ CW ((l.length:Nat):Int) h (by omega);obtain ⟨k,rfl⟩:=Int.eq_ofNat_of_zero_le v1;have hk:k<l.length:=by omega
 unfold vd;simp only [e1,Option.bind_some,au,cond_true,aC,List.getElem?_eq_getElem hk];exact ⟨_,_,_,rfl,List.getElem_mem hk,d1⟩
end Go.TM
set_option linter.unusedSimpArgs false
set_option linter.unusedVariables false
namespace Go.TM
open Go
def pU (xs:List (Int×Unit)) (m:Nat):Prop:=xs.length≤m∧(∀j (hj:j<xs.length),1≤xs[j].1∧xs[j].1≤((m:Nat):Int))∧∀i j (hi:i<xs.length) (hj:j<xs.length),i<j→xs[i].1<xs[j].1
theorem pU.snoc {xs:List (Int×Unit)} {m:Nat} (h:pU xs m):pU (xs++[(((m+1:Nat):Int),())]) (m+1):=by
 obtain ⟨h1,h2,h3⟩:=h;refine ⟨by simp;omega,fun j hj => ?_,fun i j hi hj Z1 => ?_⟩
 ·by_cases hx:j<xs.length
  ·rw [List.getElem_append_left hx];have:=h2 j hx;omega
  ·have:j=xs.length:=by simp at hj;omega
   subst this;simp;omega
 ·by_cases hx:j<xs.length
  ·rw [List.getElem_append_left hx,List.getElem_append_left (by omega)];exact h3 i j (by omega) hx Z1
  ·have hj':j=xs.length:=by simp at hj;omega
   subst hj';have hi':i<xs.length:=Z1;rw [List.getElem_append_left hi'];have:=h2 i hi';simp;omega
theorem pU.up {xs:List (Int×Unit)} {m:Nat} (h:pU xs m):pU xs (m+1):=
 ⟨by have:=h.1;omega,fun j hj=>by have:=h.2.1 j hj;omega,h.2.2⟩
structure Mi (c:Int) (xs:List (Int×Unit)):Prop where
 oa:1≤c
 qk:c≤9
 some_:1≤xs.length
 rising:pU xs 5
theorem Mi.len {c:Int} {xs:List (Int×Unit)} (h:Mi c xs):xs.length≤5:=h.rising.1
end Go.TM
set_option linter.unusedSimpArgs false
set_option linter.unusedVariables false
namespace Go.TM
open Go
structure Fh (rs:List Ci):Prop where
 some_:1≤rs.length
 E8:rs.length≤5
 each:∀k (hk:k<rs.length),rs[k].1=((k+1:Nat):Int)∧Mi rs[k].1 rs[k].2.1∧pU rs[k].2.1 3
theorem P4 (code:List (Int×Unit)) (a s:Int) (out:List Ci) (i c:Int) (d:gx code a):∃a' s' m,aI gD (code,a,s,out,i,c,[],(1:Int),())=some (.inl (code,a',s',out,i,c,m,()))∧pU m 3∧gx code a':=by
 obtain ⟨e,he,a',s',m,rfl,h1,h2⟩:=dU (round:=gD) (x:=(code,a,s,out,i,c,[],((0+1:Nat):Int),())) 3
  (fun k x=>∃(a s:Int) (m:List (Int×Unit)),x=(code,a,s,out,i,c,m,((k+1:Nat):Int),())∧gx code a∧pU m k)
  (fun e=>∃(a s:Int) (m:List (Int×Unit)),e=.inl (code,a,s,out,i,c,m,())∧pU m 3∧gx code a) (by
   rintro x ⟨a,s,m,rfl,da,rm⟩
   exact ⟨_,by simp only [gD,bz,oF,ak (show ¬((3+1:Nat):Int)≤3 by omega),cond_false],a,s,m,rfl,rm,da⟩) (by
   rintro k x hk ⟨a,s,m,rfl,da,rm⟩
   obtain ⟨b,a2,s2,e2,d2⟩:=HB code a s 4 da (by omega);have hml:=rm.1;have hs:IntKind.i64.wrap (((k+1:Nat):Int)+(1:Int))=((k+1+1:Nat):Int):=by rw [fj]<;>omega
   simp only [gD,bz,oF,aq (show ((k+1:Nat):Int)≤3 by omega),cond_true,e2,Option.bind_some,aW (show (List.length m+1)*8≤lim by unfold lim;omega),hs]
   cases b
   ·exact .inr ⟨_,rfl,a2,s2,m++[(((k+1:Nat):Int),())],rfl,d2,rm.snoc⟩
   ·exact .inr ⟨_,rfl,a2,s2,m,rfl,d2,rm.up⟩) ⟨a,s,[],rfl,d,by simp,fun j hj=>by simp at hj,fun i j hi=>by simp at hi⟩
 exact ⟨a',s',m,he,h1,h2⟩
theorem aiA {m:List (Int×Unit)} (h:pU m 3):pU m 5:=h.up.up
theorem NM (code:List (Int×Unit)) (a s:Int) (d:gx code a):∃rs a' s',nP code a s=some (rs,code,a',s',())∧Fh rs∧gx code a':=by
 obtain ⟨e,he,a',s',rs,rfl,h1,h2⟩:=dU (round:=gF) (x:=(code,a,s,[],((0:Nat):Int),())) 5
  (fun k x=>∃(a s:Int) (rs:List Ci),x=(code,a,s,rs,((k:Nat):Int),())∧gx code a∧rs.length=k∧∀j (hj:j<rs.length),rs[j].1=((j+1:Nat):Int)∧Mi rs[j].1 rs[j].2.1∧pU rs[j].2.1 3)
  (fun e=>∃(a s:Int) (rs:List Ci),e=.inl (code,a,s,rs,())∧Fh rs∧gx code a) (by
   rintro x ⟨a,s,rs,rfl,da,hl,hr⟩
   obtain ⟨b,a2,s2,e2,b1,b2,d2⟩:=sd code a s 5 da (by omega);exact ⟨_,by simp only [gF,ax,oG,e2,Option.bind_some,fj (show -9223372036854775808≤1+b by omega) (by omega),ak (show ¬((5:Nat):Int)<1+b by omega),cond_false],a2,s2,rs,rfl,⟨by omega,by omega,hr⟩,d2⟩) (by
   rintro k x hk ⟨a,s,rs,rfl,da,hl,hr⟩
   obtain ⟨b,a2,s2,e2,b1,b2,d2⟩:=sd code a s 5 da (by omega);simp only [gF,ax,oG,e2,Option.bind_some,fj (show -9223372036854775808≤1+b by omega) (by omega)]
   by_cases hb:((k:Nat):Int)<1+b
   case neg=>
    rw [ak hb];exact .inl ⟨_,rfl,a2,s2,rs,rfl,⟨by omega,by omega,hr⟩,d2⟩
   obtain ⟨a3,s3,m,e3,rm,d3⟩:=P4 code a2 s2 rs ((k:Nat):Int) ((k+1:Nat):Int) d2;have more:∀(a s:Int) (m:List (Int×Unit)),gx code a→1≤m.length→pU m 3→∃y,(some (.inl (code,a,s,rs++[(((k+1:Nat):Int),m,())],((k+1:Nat):Int),())):Option (Sum _ (Sum (List (Int×Unit)×Int×Int×List Ci×Unit) Unit)))=some (.inl y)∧∃(a s:Int) (rs:List Ci),y=(code,a,s,rs,((k+1:Nat):Int),())∧gx code a∧rs.length=k+1∧∀j (hj:j<rs.length),rs[j].1=((j+1:Nat):Int)∧Mi rs[j].1 rs[j].2.1∧pU rs[j].2.1 3:=fun a s m da h1 rm=>⟨_,rfl,a,s,_,rfl,da,by rw [List.length_append,hl];rfl,fun j hj=>by
    rw [List.length_append,List.length_singleton] at hj
    by_cases e:j<rs.length
    ·rw [List.getElem_append_left e];exact hr j e
    ·have:j=rs.length:=by omega
     subst this;rw [List.getElem_append_right (Nat.le_refl _)];simp only [Nat.sub_self,List.getElem_cons_zero];exact ⟨by rw [hl],⟨by omega,by omega,h1,aiA rm⟩,rm⟩⟩
   simp only [aq hb,cond_true,aH (show k<4611686018427387904 by omega),e3,oA];have Zy:Nat.ble ((rs.length+1)*32) lim=true:=aW (by rw [hl];unfold lim;omega)
   by_cases h0:((List.length m:Nat):Int)=0
   ·obtain ⟨v,a4,s4,e4,v1,v2,d4⟩:=sd code a3 s3 3 d3 (by omega);simp only [aq h0,cond_true,e4,Option.bind_some,Zy,fj (show -9223372036854775808≤1+v by omega) (by omega)];exact .inr (more a4 s4 [(1+v,())] d4 (by simp) ⟨by simp,fun j hj=>by
     have:j=0:=by simp at hj;omega
     subst this;exact ⟨by show 1≤1+v;omega,by show 1+v≤3;omega⟩,fun i j hi hj Z1=>by simp at hi hj;omega⟩)
   ·simp only [ak h0,cond_false,Zy,cond_true];exact .inr (more a3 s3 m d3 (by omega) rm)) ⟨a,s,[],rfl,d,rfl,fun j hj=>by simp at hj⟩
 have he:aI gF (code,a,s,[],(0:Int),())=_:=he;refine ⟨rs,a',s',?_,h1,h2⟩;unfold nP;rw [he];rfl
end Go.TM
set_option linter.unusedSimpArgs false
set_option linter.unusedVariables false
namespace Go.TM
open Go
theorem P5 (a b:Nat):Int.tmod ((a:Nat):Int) ((b:Nat):Int)=((a % b:Nat):Int):=rfl
def TA {A B:Type} (xs:List (Int×Unit)):Sum A (Int×Unit)→Sum B (Int×Unit)→Prop
 |.inl _,.inl _=>True
 |.inr a,.inr b=>∃(k:Nat) (r:Int×Unit),b.1=((k:Nat):Int)∧k<xs.length∧xs[(k+1) % xs.length]?=some r∧a.1=r.1
 |_,_=>False
theorem V3 (c d:Int) (xs:List (Int×Unit)) (h:xs.length≤1048576) (h1:1≤xs.length) :
  ∃e f,aI fE (d,c,xs,(0:Int),())=some e∧aI cV (xs,d,((List.length xs:Nat):Int),(0:Int),())=some f∧TA xs e f:=by
 refine oB xs.length (fun k x y=>x=(d,c,xs,((k:Nat):Int),())∧y=(xs,d,((List.length xs:Nat):Int),((k:Nat):Int),())) (TA xs) ?_ ⟨rfl,rfl⟩
 rintro k x y hk ⟨rfl,rfl⟩
 by_cases dB:k<xs.length
 ·have hm:(k+1) % xs.length<xs.length:=Nat.mod_lt _ (by omega);simp only [fE,ax,oM,cV,ax,fS,aD dB,au,cond_true,aC,List.getElem?_eq_getElem dB,Option.bind_some,aH (show k<4611686018427387904 by omega),P5,List.getElem?_eq_getElem hm,
   ak (show ¬((List.length xs:Nat):Int)=0 by omega),cond_false]
  by_cases hd:xs[k].1=d
  ·rw [aq hd,aq hd.symm];exact .inl ⟨.inr (xs[(k+1) % xs.length].1,()),.inr (((k:Nat):Int),()),rfl,rfl,k,xs[(k+1) % xs.length],rfl,dB,List.getElem?_eq_getElem hm,rfl⟩
  ·rw [ak hd,ak (fun e=>hd e.symm)];exact .inr ⟨dB,_,_,rfl,rfl,rfl,rfl⟩
 ·have:k=xs.length:=by omega
  subst this;exact .inl ⟨.inl (),.inl (),by simp only [fE,ax,oM,aJ,cond_false],by simp only [cV,ax,fS,aJ,cond_false],trivial⟩
theorem R9 (d:Int) (xs:List (Int×Unit)) (h:xs.length≤1048576):∃f,aI cV (xs,d,((List.length xs:Nat):Int),(0:Int),())=some f:=by
 obtain ⟨f,hf,_⟩:=dU (round:=cV) (x:=(xs,d,((List.length xs:Nat):Int),((0:Nat):Int),())) xs.length (fun k x=>x=(xs,d,((List.length xs:Nat):Int),((k:Nat):Int),())) (fun _=>True) (by
  rintro x rfl
  exact ⟨.inl (),by simp only [cV,ax,fS,aJ,cond_false],trivial⟩) (by
  rintro k x hk rfl
  simp only [cV,ax,fS,aD hk,au,cond_true,aC,List.getElem?_eq_getElem hk,Option.bind_some,aH (show k<4611686018427387904 by omega)]
  cases decide (d=xs[k].1)
  ·exact .inr ⟨_,rfl,rfl⟩
  ·exact .inl ⟨_,rfl,trivial⟩) rfl
 exact ⟨f,hf⟩
theorem V4 (c d:Int) (xs:List (Int×Unit)) (h:xs.length≤1048576):∃b,ig c xs d=some (b,())∧qT c xs d=some (b,()):=by
 obtain ⟨b,h1,h2,h3⟩:=vN c xs h;unfold ig qT ma;rw [h1];simp only [Option.bind_some]
 cases b with
 |false=>
  obtain ⟨f,hf⟩:=R9 d xs h;rw [hf]
  cases f with
  |inl f=>exact ⟨0,rfl,rfl⟩
  |inr f=>
   refine ⟨0,rfl,?_⟩;simp only [bU,Option.bind_some,h2]
   cases decide (f.1<0)<;>rfl
 |true=>
  obtain ⟨l1,l2⟩:=h3 rfl;obtain ⟨e,f,g1,g2,g3⟩:=V3 c d xs h l1;rw [g1,g2]
  cases e with
  |inl e=>cases f with
   |inl f=>exact ⟨0,rfl,rfl⟩
   |inr f=>exact g3.elim
  |inr e=>cases f with
   |inl f=>exact g3.elim
   |inr f=>
    obtain ⟨k,r,q1,q2,q3,q4⟩:=g3;refine ⟨e.1,rfl,?_⟩;simp only [bU,Option.bind_some,h2,q1,ak (show ¬((k:Nat):Int)<0 by omega),cond_false,Bool.not_true,ak (show ¬((List.length xs:Nat):Int)=0 by omega),
     aH (show k<4611686018427387904 by omega),P5,au,cond_true,aC,q3,q4]
end Go.TM
set_option linter.unusedSimpArgs false
set_option linter.unusedVariables false
namespace Go.TM
open Go
abbrev od:Type:=List (Int×cG×Unit)
abbrev uR:Type:=Int×Int×Int×Int×Int×Int×ByteArray×Int×Int×Int×Int×Int×cG×Int×Int×Int×aZ×Unit
abbrev dj:Type:=od×List bQ×List uR×List sf×Unit
def pz (w:dj) (k:Nat) (d:bQ):dj:=(w.1,w.2.1.set k d,w.2.2)
def dW (w:dj) (l:List uR):dj:=(w.1,w.2.1,l,w.2.2.2)
def xi (w:dj) (l:List sf):dj:=(w.1,w.2.1,w.2.2.1,l,())
theorem ee {k:Nat} (hk:k<1000):IntKind.i64.wrap (((k+1:Nat):Int)-1)=((k:Nat):Int):=by rw [fj]<;>omega
theorem qK (w:dj) (h:w.2.1.length≤5) {k:Nat} (hk:k<w.2.1.length) (d:bQ) (hd:d.1=((k+1:Nat):Int)):ev w.1 w.2.1 w.2.2.1 w.2.2.2.1 d.1 d.2.1 d.2.2.1 d.2.2.2.1 d.2.2.2.2.1 d.q.1 d.q.2.1 d.q.2.2.1 d.q.2.2.2.1 d.q.2.2.2.2.1 d.q.q.1 d.q.q.2.1 d.q.q.2.2.1 d.q.q.2.2.2.1 d.q.q.2.2.2.2.1 d.q.q.q.1 d.q.q.q.2.1 d.q.q.q.2.2.1 d.q.q.q.2.2.2.1 d.q.q.q.2.2.2.2.1 d.q.q.q.q.1 d.q.q.q.q.2.1 d.q.q.q.q.2.2.1 d.q.q.q.q.2.2.2.1=some ((pz w k d).1,(pz w k d).2.1,(pz w k d).2.2.1,(pz w k d).2.2.2.1,()):=by
 unfold ev;simp only [hd,ee (show k<1000 by omega),au,aC,cond_true,List.nil_append,cw hk,List.getElem?_eq_getElem hk,Option.bind_some,aW (show (0+w.2.1.length)*320≤lim by unfold lim;omega)];rw [←hd];rfl
theorem Fi (w:dj) (h:w.2.2.1.length≤1073741824) (x:uR):fl w.1 w.2.1 w.2.2.1 w.2.2.2.1 x.1 x.2.1 x.2.2.1 x.2.2.2.1 x.2.2.2.2.1 x.q.1 x.q.2.1 x.q.2.2.1 x.q.2.2.2.1 x.q.2.2.2.2.1 x.q.q.1 x.q.q.2.1 x.q.q.2.2.1 x.q.q.2.2.2.1 x.q.q.2.2.2.2.1 x.q.q.q.1 x.q.q.q.2.1=some ((dW w (w.2.2.1++[x])).1,(dW w (w.2.2.1++[x])).2.1,(dW w (w.2.2.1++[x])).2.2.1,(dW w (w.2.2.1++[x])).2.2.2.1,()):=by
 unfold fl;simp only [List.nil_append,cond_true,aW (show (0+w.2.2.1.length)*176≤lim by unfold lim;omega),aW (show (w.2.2.1.length+1)*176≤lim by unfold lim;omega)];rfl
def Fj (to_ c:Int) (x:ez):uR:=(1,to_,c,x.1,x.2.1,x.2.2.1,x.2.2.2.1,0,0,0,0,0,[],0,0,0,[],())
def jt (to_ c:Int) (t:gN):uR:=(2,to_,c,0,0,0,ByteArray.empty,t.1,t.2.1,t.2.2.1,t.2.2.2.1,t.2.2.2.2.1,t.q.1,0,0,0,[],())
def s5 (to_ c:Int) (b:eC):uR:=(3,to_,c,0,0,0,ByteArray.empty,0,0,0,0,0,[],b.1,b.2.1,b.2.2.1,b.2.2.2.1,())
def dm (ms:cG) (c id:Int) (x:ez):List uR:=(ms.filter fun m => !decide (m.1=id)).map fun m=>Fj m.1 c x
def bZ (ms:cG) (c id:Int) (l:aZ):List uR:=l.flatMap (dm ms c id)
theorem C9 (ms:cG) (c id:Int) (x:ez) {k:Nat} (hk:k<ms.length):dm (ms.take (k+1)) c id x=dm (ms.take k) c id x++(bif !decide (ms[k].1=id) then [Fj ms[k].1 c x] else []):=by
 unfold dm;rw [List.take_succ_eq_append_getElem hk,List.filter_append,List.map_append,List.filter_cons,List.filter_nil]
 cases decide (ms[k].1=id)<;>rfl
theorem Fk (ms:cG) (c id:Int) (x:ez):(dm ms c id x).length≤ms.length:=by
 unfold dm;rw [List.length_map];exact List.length_filter_le _ _
theorem G9 (ms:cG) (c id:Int) (l:aZ) {k:Nat} (hk:k<l.length):bZ ms c id (l.take (k+1))=bZ ms c id (l.take k)++dm ms c id l[k]:=by
 unfold bZ;rw [List.take_succ_eq_append_getElem hk,List.flatMap_append];simp
theorem s6 (ms:cG) (c id:Int) (hn:ms.length≤5):(l:aZ)→(bZ ms c id l).length≤5*l.length
 | []=>by simp [bZ]
 |x::l=>by
  have h1:=s6 ms c id hn l;have h2:=Fk ms c id x;have e:bZ ms c id (x::l)=dm ms c id x++bZ ms c id l:=rfl;rw [e,List.length_append,List.length_cons];omega
theorem JZ {ms:cG} {c id:Int} {l:aZ} {f:uR} (h:f∈bZ ms c id l):∃m∈ms,∃x∈l,f=Fj m.1 c x:=by
 unfold bZ at h;obtain ⟨x,hx,h⟩:=List.mem_flatMap.1 h;unfold dm at h;obtain ⟨m,hm,rfl⟩:=List.mem_map.1 h;exact ⟨m,(List.mem_filter.1 hm).1,x,hx,rfl⟩
theorem Mj (w:dj) (c:Int) (ms:cG) (id:Int) (l:aZ) (h1:ms.length≤5) (h2:w.2.2.1.length≤1073741824-1048576) (h3:l.length≤1000):pj w.1 w.2.1 w.2.2.1 w.2.2.2.1 c ms id l=some ((dW w (w.2.2.1++bZ ms c id l)).1,(dW w (w.2.2.1++bZ ms c id l)).2.1,(dW w (w.2.2.1++bZ ms c id l)).2.2.1,(dW w (w.2.2.1++bZ ms c id l)).2.2.2.1,()):=by
 have l1:=bP (round:=jl) (e:=.inl ((dW w (w.2.2.1++bZ ms c id l)).1,(dW w (w.2.2.1++bZ ms c id l)).2.1,(dW w (w.2.2.1++bZ ms c id l)).2.2.1,(dW w (w.2.2.1++bZ ms c id l)).2.2.2.1,())) l.length (fun i=>((dW w (w.2.2.1++bZ ms c id (l.take i))).1,(dW w (w.2.2.1++bZ ms c id (l.take i))).2.1,(dW w (w.2.2.1++bZ ms c id (l.take i))).2.2.1,(dW w (w.2.2.1++bZ ms c id (l.take i))).2.2.2.1,id,l,c,ms,((i:Nat):Int),())) (by
  simp only [jl,bz,um,dz,aJ,cond_false,List.take_length]) (fun i hi=>by
  have hb:=s6 ms c id h1 (l.take i);rw [List.length_take] at hb;have l2:=bP (round:=ky) (e:=.inl ((dW w (w.2.2.1++bZ ms c id (l.take i)++dm ms c id l[i])).1,(dW w (w.2.2.1++bZ ms c id (l.take i)++dm ms c id l[i])).2.1,(dW w (w.2.2.1++bZ ms c id (l.take i)++dm ms c id l[i])).2.2.1,(dW w (w.2.2.1++bZ ms c id (l.take i)++dm ms c id l[i])).2.2.2.1,id,l,c,ms,((i:Nat):Int),())) ms.length (fun k=>((dW w (w.2.2.1++bZ ms c id (l.take i)++dm (ms.take k) c id l[i])).1,(dW w (w.2.2.1++bZ ms c id (l.take i)++dm (ms.take k) c id l[i])).2.1,(dW w (w.2.2.1++bZ ms c id (l.take i)++dm (ms.take k) c id l[i])).2.2.1,(dW w (w.2.2.1++bZ ms c id (l.take i)++dm (ms.take k) c id l[i])).2.2.2.1,id,l,c,ms,((i:Nat):Int),((k:Nat):Int),())) (by
   simp only [ky,bz,uk,ax,aF,aJ,cond_false,List.take_length]) (fun k hk=>by
   have Ie:=Fk (ms.take k) c id l[i];rw [List.length_take] at Ie;have hs:=Fi (dW w (w.2.2.1++bZ ms c id (l.take i)++dm (ms.take k) c id l[i])) (by
    show (w.2.2.1++bZ ms c id (l.take i)++dm (ms.take k) c id l[i]).length≤_;rw [List.length_append,List.length_append];omega) (Fj ms[k].1 c l[i])
   have hs:fl w.1 w.2.1 (w.2.2.1++bZ ms c id (l.take i)++dm (ms.take k) c id l[i]) w.2.2.2.1 1 ms[k].1 c (l[i]).1 (l[i]).2.1 (l[i]).2.2.1 (l[i]).2.2.2.1 0 0 0 0 0 [] 0 0 0 []=_:=hs;simp only [ky,bz,uk,ax,aF,aD hk,au,cond_true,aC,List.getElem?_eq_getElem hk,List.getElem?_eq_getElem hi,Option.bind_some,aH (show k<4611686018427387904 by omega),C9 ms c id l[i] hk]
   cases decide (ms[k].1=id)
   ·simp only [Bool.not_false,cond_true,dW] at hs ⊢;rw [hs];simp only [Option.bind_some,List.append_assoc]
   ·simp only [Bool.not_true,cond_false,List.append_nil])
  have l2:aI ky ((dW w (w.2.2.1++bZ ms c id (l.take i)++dm (ms.take 0) c id l[i])).1,(dW w (w.2.2.1++bZ ms c id (l.take i)++dm (ms.take 0) c id l[i])).2.1,(dW w (w.2.2.1++bZ ms c id (l.take i)++dm (ms.take 0) c id l[i])).2.2.1,(dW w (w.2.2.1++bZ ms c id (l.take i)++dm (ms.take 0) c id l[i])).2.2.2.1,id,l,c,ms,((i:Nat):Int),(0:Int),())=_:=l2;rw [show dm (ms.take 0) c id l[i]=[] from rfl,List.append_nil] at l2;simp only [jl,bz,um,dz,aD hi,cond_true,l2,bU,Option.bind_some,aH (show i<4611686018427387904 by omega),G9 ms c id l hi,List.append_assoc])
 have l1:aI jl ((dW w (w.2.2.1++bZ ms c id (l.take 0))).1,(dW w (w.2.2.1++bZ ms c id (l.take 0))).2.1,(dW w (w.2.2.1++bZ ms c id (l.take 0))).2.2.1,(dW w (w.2.2.1++bZ ms c id (l.take 0))).2.2.2.1,id,l,c,ms,(0:Int),())=_:=l1;rw [show bZ ms c id (l.take 0)=[] from rfl,List.append_nil] at l1;unfold pj;have l1:aI jl (w.1,w.2.1,w.2.2.1,w.2.2.2.1,id,l,c,ms,(0:Int),())=_:=l1;rw [l1];rfl
theorem ZG (a b:Nat):Int.tmod ((a:Nat):Int) ((b:Nat):Int)=((a % b:Nat):Int):=rfl
theorem ZH {c:Int} {xs:cG} (hr:oV c xs) {id:Int} (hm:(id,())∈xs):∃b,ig c xs id=some (b,())∧1≤b∧b≤5:=by
 have hl:=hr.2.1.2;have h:xs.length≤1048576:=by omega
 unfold ig;rw [(qo c xs h).1,(qo c xs h).2.2.2 hr];obtain ⟨e,he,b,rfl,hb⟩:=dU (round:=fE) (x:=(id,c,xs,((0:Nat):Int),())) xs.length (fun k x=>x=(id,c,xs,((k:Nat):Int),())∧∀j (hj:j<xs.length),j<k→xs[j].1≠id) (fun e=>∃b,e=.inr (b,())∧1≤b∧b≤5) (by
   rintro x ⟨_,g⟩
   obtain ⟨j,hj,e⟩:=List.mem_iff_getElem.1 hm;exact absurd (congrArg Prod.fst e) (g j hj hj)) (by
   rintro k x hk ⟨rfl,g⟩
   have Hs:(k+1) % xs.length<xs.length:=Nat.mod_lt _ (by omega);simp only [fE,ax,oM,aD hk,au,cond_true,aC,List.getElem?_eq_getElem hk,Option.bind_some,aH (show k<4611686018427387904 by omega),ZG,List.getElem?_eq_getElem Hs,ak (show ¬((List.length xs:Nat):Int)=0 by omega),cond_false]
   by_cases e:xs[k].1=id
   ·rw [aq e];exact .inl ⟨_,rfl,_,rfl,(hr.2.2 _ Hs Hs).1⟩
   ·rw [ak e];refine .inr ⟨_,rfl,rfl,fun j hj N0 => ?_⟩
    by_cases e2:j=k
    ·subst e2;exact e
    ·exact g j hj (by omega)) ⟨rfl,fun j _ h=>by omega⟩
 have he:aI fE (id,c,xs,(0:Int),())=some _:=he;simp only [Option.bind_some,Bool.not_true,cond_false,he];exact ⟨b,rfl,hb⟩
theorem Mk (w:dj) {c:Int} {ms:cG} (hr:oV c ms) {id:Int} (hm:(id,())∈ms) (t:gN) (h2:w.2.2.1.length≤1073741824) (h3:t.q.1.length≤1048576):∃to_,(1≤to_∧to_≤5)∧ig c ms id=some (to_,())∧mH w.1 w.2.1 w.2.2.1 w.2.2.2.1 c ms id t.1 t.2.1 t.2.2.1 t.2.2.2.1 t.2.2.2.2.1 t.q.1=some ((dW w (w.2.2.1++[jt to_ c t])).1,(dW w (w.2.2.1++[jt to_ c t])).2.1,(dW w (w.2.2.1++[jt to_ c t])).2.2.1,(dW w (w.2.2.1++[jt to_ c t])).2.2.2.1,()):=by
 obtain ⟨v,hv,hb⟩:=ZH hr hm;have hs:=Fi w h2 (jt v c t);have hs:fl w.1 w.2.1 w.2.2.1 w.2.2.2.1 2 v c 0 0 0 ByteArray.empty t.1 t.2.1 t.2.2.1 t.2.2.2.1 t.2.2.2.2.1 t.q.1 0 0 0 []=_:=hs;refine ⟨v,hb,hv,?_⟩;unfold mH;delta aP;simp only [hv,Option.bind_some,(kZ t.1 t.2.1 t.2.2.1 t.2.2.2.1 t.2.2.2.2.1 t.q.1 h3).1,hs]
end Go.TM
