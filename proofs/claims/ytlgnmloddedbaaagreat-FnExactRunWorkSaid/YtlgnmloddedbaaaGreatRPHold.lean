/- What a member does that holds a token. -/
import Derived.Test.YtlgnmloddedbaaaGreatRPHoldL
set_option linter.unusedSimpArgs false
set_option linter.unusedVariables false
namespace Go.TM
open Go
theorem pr.id {m:eb} (h:pr m):1≤m.1∧m.1≤5:=by
 obtain ⟨k,hk,e⟩:=List.mem_iff_getElem.1 h.mem;have:=(h.ring.2.2 k hk hk).1;rw [e] at this;exact this
theorem Mj {list:aS} {xs:dF} {ms:List Int} {c c2:Int} (hx:vL c xs xs.length) (hc:c≤c2) (hm:∀s∈ms,1≤s∧s≤c2):vL c2 (aW (kn list xs ms)) (aW (kn list xs ms)).length:=by
 have hp:(kn list xs ms).Pairwise (· < ·):=List.Pairwise.sublist (List.take_sublist _ _) (List.Pairwise.filter _ (C7 60));have x6:∀s∈kn list xs ms,1≤s∧s≤c2:=by
  intro s hs;have h1:=List.mem_of_mem_take hs;have h2:=(List.mem_filter.1 h1).2;unfold gK at h2;rw [Bool.or_eq_true,Bool.and_eq_true,decide_eq_true_eq,decide_eq_true_eq] at h2;rcases h2 with ⟨_,h2⟩ | h2
  ·unfold bm at h2;obtain ⟨r,hr,rfl⟩:=List.mem_map.1 h2;obtain ⟨k,hk,rfl⟩:=List.mem_iff_getElem.1 hr;have:=hx k hk hk;exact ⟨this.1,by omega⟩
  ·exact hm s h2
 intro k hk _;have ue:k<(kn list xs ms).length:=by rwa [cf] at hk
 have e:∀j (hj:j<(aW (kn list xs ms)).length) (VI:j<(kn list xs ms).length),(aW (kn list xs ms))[j].1=(kn list xs ms)[j]:=by intro j hj VI;simp [aW]
 rw [e k hk ue];refine ⟨(x6 _ (List.getElem_mem ue)).1,(x6 _ (List.getElem_mem ue)).2,fun h0 => ?_⟩;rw [e (k-1) (by omega) (by omega)];exact List.pairwise_iff_getElem.1 hp (k-1) k (by omega) ue (by omega)
theorem vY.drop {l:dF} (h:vY l l.length) (k:Nat):vY (l.drop k) (l.drop k).length:=by
 intro j hj _;rw [List.getElem_drop];rw [List.length_drop] at hj;exact h (k+j) (by omega) (by omega)
theorem jo.drop {l:List (ByteArray×Unit)} (h:jo l l.length) (k:Nat):jo (l.drop k) (l.drop k).length:=by
 intro j hj _;rw [List.getElem_drop];rw [List.length_drop] at hj;exact h (k+j) (by omega) (by omega)
structure Uz (m:eb) (t:kY) (n:eb) (said:aS) (k:Nat) (nx:kY):Prop where
 wv:k≤3∧k≤m.q.1.length∧t.2.2.1+((k:Nat):Int)≤60
 said:said=s7 t m.2.2.2.1++dL t.2.2.1 m.1 m.2.2.2.2.1 m.q.1 k
 id:n.1=m.1∧n.2.1=m.2.1∧n.2.2.1=m.2.2.1
 items:n.2.2.2.1=bE m.2.2.2.1 (dL t.2.2.1 m.1 m.2.2.2.2.1 m.q.1 k)
 words:n.2.2.2.2.1=m.2.2.2.2.1.drop k∧n.q.1=m.q.1.drop k
 round:n.q.2.1=t.2.1∧n.q.2.2.1=t.2.2.2.1∧m.q.2.2.2.1≤n.q.2.2.2.1∧n.q.2.2.2.2.1=m.q.2.2.2.2.1
 last:(n.q.q.1,n.q.q.2.1,n.q.q.2.2.1,n.q.q.2.2.2.1,n.q.q.2.2.2.2.1,n.q.q.q.1,())=nx
 nq:pr n
 tq:Cn nx
 next:nx.1=t.1∧nx.2.1=t.2.1+1∧nx.2.2.1=t.2.2.1+((k:Nat):Int)
 aln:k=min 3 m.q.1.length∨t.2.2.1+((k:Nat):Int)=60
 marks:nx.2.2.2.1=C5 (t.2.2.1+((k:Nat):Int)) (if t.2.2.2.1=t.2.2.1∧t.2.2.2.2.1=0 then t.2.2.1+((k:Nat):Int) else t.2.2.2.1) t.2.2.2.2.1 m.1 ((dB n.2.2.2.1:Nat):Int)∧nx.2.2.2.2.1=C6 (t.2.2.1+((k:Nat):Int)) (if t.2.2.2.1=t.2.2.1∧t.2.2.2.2.1=0 then t.2.2.1+((k:Nat):Int) else t.2.2.2.1) t.2.2.2.2.1 m.1 ((dB n.2.2.2.1:Nat):Int)
 line:n.q.2.2.2.1=m.q.2.2.2.1∨(n.q.2.2.2.1≤m.q.2.2.1∧n.q.2.2.2.1≤t.2.2.2.1∧n.q.2.2.2.1≤((dB n.2.2.2.1:Nat):Int))
 afl:∀s∈bm nx.q.1,hasB n.2.2.2.1 s=false
 reach:∀x:Int,x≤m.q.2.2.1→x≤t.2.2.2.1→x≤((dB n.2.2.2.1:Nat):Int)→x≤n.q.2.2.2.1
theorem No (m:eb) (t:kY) (hm:pr m) (ht:Cn t) (hc:t.1=m.2.1) (hr1:m.q.2.1<t.2.1) (hr2:t.2.1<1000000000) :
  ∃(n:eb) (said:aS) (k:Nat) (nx:kY),Uz m t n said k nx∧qY m.1 m.2.1 m.2.2.1 m.2.2.2.1 m.2.2.2.2.1 m.q.1 m.q.2.1 m.q.2.2.1 m.q.2.2.2.1 m.q.2.2.2.2.1 m.q.q.1 m.q.q.2.1 m.q.q.2.2.1 m.q.q.2.2.2.1 m.q.q.2.2.2.2.1 m.q.q.q.1 t.1 t.2.1 t.2.2.1 t.2.2.2.1 t.2.2.2.2.1 t.q.1=some (n.1,n.2.1,n.2.2.1,n.2.2.2.1,n.2.2.2.2.1,n.q.1,n.q.2.1,n.q.2.2.1,n.q.2.2.2.1,n.q.2.2.2.2.1,n.q.q.1,n.q.q.2.1,n.q.q.2.2.1,n.q.q.2.2.2.1,n.q.q.2.2.2.2.1,n.q.q.q.1,said,((k:Nat):Int),nx.1,nx.2.1,nx.2.2.1,nx.2.2.2.1,nx.2.2.2.2.1,nx.q.1,true,())∧qX m.1 m.2.1 m.2.2.1 m.2.2.2.1 m.2.2.2.2.1 m.q.1 m.q.2.1 m.q.2.2.1 m.q.2.2.2.1 m.q.2.2.2.2.1 m.q.q.1 m.q.q.2.1 m.q.q.2.2.1 m.q.q.2.2.2.1 m.q.q.2.2.2.2.1 m.q.q.q.1 t.1 t.2.1 t.2.2.1 t.2.2.2.1 t.2.2.2.2.1 t.q.1=some (n.1,n.2.1,n.2.2.1,n.2.2.2.1,n.2.2.2.2.1,n.q.1,n.q.2.1,n.q.2.2.1,n.q.2.2.2.1,n.q.2.2.2.2.1,n.q.q.1,n.q.q.2.1,n.q.q.2.2.1,n.q.q.2.2.2.1,n.q.q.2.2.2.2.1,n.q.q.q.1,said,nx.1,nx.2.1,nx.2.2.1,nx.2.2.2.1,nx.2.2.2.2.1,nx.q.1,true,()):=by
 have yw:=hm.id;have hW:=hm.small;have hw:=hW;unfold Cp at hw;have hwl:t.q.1.length≤20:=ht.q.1;obtain ⟨k,t3,hN,q1,q2,q3,q4,q5,q6⟩:=Me t.1 t.2.1 t.2.2.1 t.2.2.2.1 t.2.2.2.2.1 t.q.1 m.1 m.2.2.2.2.1 m.q.1 (by omega) (by omega) yw ht;obtain ⟨o0,o1,o2,o3,o4,o5,o6,s1,s2,_⟩:=Ib t.1 t.2.1 t.2.2.1 t.2.2.2.1 t.2.2.2.2.1 t.q.1 m.1 m.2.2.2.2.1 m.q.1 (by omega);rw [hN] at s2;injection s2 with s2;simp only [Prod.mk.injEq] at s2;obtain ⟨rfl,rfl,rfl,rfl,rfl,rfl,rfl,_⟩:=s2;have hF:∀f∈dL t.2.2.1 m.1 m.2.2.2.2.1 m.q.1 k,mg f:=xB ⟨ht.2.2.1.1,q3⟩ yw q2 hm.short;have hFl:=j3 t.2.2.1 m.1 m.2.2.2.2.1 m.q.1 k;generalize hFF:dL t.2.2.1 m.1 m.2.2.2.2.1 m.q.1 k=F at *;subst hFl;have hi:=qQ F hm.items hF;have his:=cm _ hi;have aqA:=cm _ hm.items;obtain ⟨a1,a2,_⟩:=zT (bE m.2.2.2.1 F) (by omega);have am3:dB m.2.2.2.1≤dB (bE m.2.2.2.1 F):=Kh (by omega) (by omega) fun r hr=>⟨r,C8 F hr,rfl⟩
 obtain ⟨z0,z1,z2,z3,z4,z5,z6⟩:=ht;have IE:vL (t.2.2.1+((List.length F:Nat):Int)) t.q.1 t.q.1.length:=fun j hj JK=>by
  have:=z6 j hj JK;exact ⟨this.1,by omega,this.2.2⟩
 have ht3:0≤t3∧t3≤t.2.2.1+((List.length F:Nat):Int):=by
  have z3a:=z3.1;have z3b:=z3.2;have z2a:=z2.1;rcases q4 with e | e<;>rw [e]<;>omega
 have htq:Cn (t.1,t.2.1,t.2.2.1+((List.length F:Nat):Int),t3,t.2.2.2.2.1,t.q.1,()):=⟨z0,z1,⟨by show 0≤t.2.2.1+_;omega,q3⟩,ht3,z4,z5,IE⟩;obtain ⟨u1,_,u3⟩:=Co (t.1,t.2.1,t.2.2.1+((List.length F:Nat):Int),t3,t.2.2.2.2.1,t.q.1,()) (by show t.q.1.length≤_;omega);rw [u3.2 htq] at u1;obtain ⟨ZO,UA,m1,m2,_,m4,m5⟩:=Si t.1 t.2.1 (t.2.2.1+((List.length F:Nat):Int)) t3 t.2.2.2.2.1 t.q.1 m.1 ((dB (bE m.2.2.2.1 F):Nat):Int) (by omega) u1;have m4:=m4 rfl yw.1 yw.2 (by omega) htq.2.2.2.1.1 htq.2.2.2.1.2;have m5:=m5 rfl yw.1 yw.2 (by omega);obtain ⟨ms,l1,l2,l3,l4⟩:=Ke (bE m.2.2.2.1 F) (t.2.2.1+((List.length F:Nat):Int)) (by omega);have ls:=Mg t.1 t.2.1 (t.2.2.1+((List.length F:Nat):Int)) ZO UA t.q.1 (bE m.2.2.2.1 F) ms (by omega) (by omega) l1 l3;have li:=Mh t.1 t.2.1 (t.2.2.1+((List.length F:Nat):Int)) ZO UA t.q.1 (bE m.2.2.2.1 F) ms (by omega) (by omega) l2 l3 (fun s hs=>⟨(l4 s hs).1,(l4 s hs).2.1.1,(l4 s hs).2.2⟩);have hlw:vL (t.2.2.1+((List.length F:Nat):Int)) (aW (kn (bE m.2.2.2.1 F) t.q.1 ms)) (aW (kn (bE m.2.2.2.1 F) t.q.1 ms)).length:=Mj z6 (by omega) fun s hs=>⟨(l4 s hs).1,(l4 s hs).2.1.2⟩
 have hll:(aW (kn (bE m.2.2.2.1 F) t.q.1 ms)).length≤20:=by
  rw [cf];unfold kn;rw [List.length_take];omega
 have hlk:∀s∈bm (aW (kn (bE m.2.2.2.1 F) t.q.1 ms)),hasB (bE m.2.2.2.1 F) s=false:=by
  rw [oZ];intro s hs;have h2:=(List.mem_filter.1 (List.mem_of_mem_take hs)).2;unfold gK at h2;rw [Bool.or_eq_true,Bool.and_eq_true,decide_eq_true_eq,decide_eq_true_eq] at h2;rcases h2 with ⟨h2,_⟩ | h2
  ·simpa using h2
  ·exact (l4 s h2).2.2
 generalize aW (kn (bE m.2.2.2.1 F) t.q.1 ms)=W at *;have UB:IntKind.i64.wrap (t.2.1+(1:Int))=t.2.1+1:=du (by omega) (by omega);obtain ⟨c1,c2⟩:=gF t.1 (t.2.1+1) (t.2.2.1+((List.length F:Nat):Int)) ZO UA W (by omega);have FP:Cp m≤1048576:=by omega
 obtain ⟨kb1,kb2,kb3⟩:=zU m FP;rw [kb3.2 hm] at kb1 kb2;obtain ⟨kt1,kt2,kt3⟩:=Co t (by omega);rw [kt3.2 ⟨z0,z1,z2,z3,z4,z5,z6⟩] at kt1 kt2;obtain ⟨p1,p2⟩:=mX m.1 m.2.1 m.2.2.1 m.2.2.2.1 m.2.2.2.2.1 m.q.1 m.q.2.1 m.q.2.2.1 m.q.2.2.2.1 m.q.2.2.2.2.1 m.q.q.1 m.q.q.2.1 m.q.q.2.2.1 m.q.q.2.2.2.1 m.q.q.2.2.2.2.1 m.q.q.q.1 FP;obtain ⟨g1,g2⟩:=Sm t m.2.2.2.1 (by omega) (by omega);have hgl:=Ff t m.2.2.2.1;have htx:=hm.texts;generalize hLN:(if (if ((dB (bE m.2.2.2.1 F):Nat):Int)<(if t.2.2.2.1<m.q.2.2.1 then t.2.2.2.1 else m.q.2.2.1) then ((dB (bE m.2.2.2.1 F):Nat):Int) else (if t.2.2.2.1<m.q.2.2.1 then t.2.2.2.1 else m.q.2.2.1))>m.q.2.2.2.1 then (if ((dB (bE m.2.2.2.1 F):Nat):Int)<(if t.2.2.2.1<m.q.2.2.1 then t.2.2.2.1 else m.q.2.2.1) then ((dB (bE m.2.2.2.1 F):Nat):Int) else (if t.2.2.2.1<m.q.2.2.1 then t.2.2.2.1 else m.q.2.2.1)) else m.q.2.2.2.1)=line;have hle:m.q.2.2.2.1≤line:=by
  rw [←hLN]
  split<;>omega
 have hnx:Cn (t.1,t.2.1+1,t.2.2.1+((List.length F:Nat):Int),ZO,UA,W,()):=⟨z0,⟨by show 1≤t.2.1+1;omega,by show t.2.1+1≤1000000000;omega⟩,⟨by show 0≤t.2.2.1+_;have:=z2.1;omega,q3⟩,⟨m4.1,m4.2.1⟩,by
  have z4a:=z4.1;have z4b:=z4.2;show 0≤UA∧UA≤5;rcases m4.2.2.2.2 with e | e | ⟨e,_⟩<;>rw [e]<;>omega,hll,hlw⟩
 refine ⟨(m.1,m.2.1,m.2.2.1,bE m.2.2.2.1 F,m.2.2.2.2.1.drop F.length,m.q.1.drop F.length,t.2.1,t.2.2.2.1,line,m.q.2.2.2.2.1,t.1,t.2.1+1,t.2.2.1+((List.length F:Nat):Int),ZO,UA,W,()),s7 t m.2.2.2.1++F,F.length,(t.1,t.2.1+1,t.2.2.1+((List.length F:Nat):Int),ZO,UA,W,()),?_,?_,?_⟩
 ·have hn:pr (m.1,m.2.1,m.2.2.1,bE m.2.2.2.1 F,m.2.2.2.2.1.drop F.length,m.q.1.drop F.length,t.2.1,t.2.2.2.1,line,m.q.2.2.2.2.1,t.1,t.2.1+1,t.2.2.1+((List.length F:Nat):Int),ZO,UA,W,()):={
   ring:=hm.ring
   mem:=hm.mem
   items:=hi
   texts:=⟨by show (m.q.1.drop F.length).length≤20;rw [List.length_drop];omega,by show (m.2.2.2.2.1.drop F.length).length=(m.q.1.drop F.length).length;rw [List.length_drop,List.length_drop];omega⟩
   Uw:=hm.Uw.drop _
   short:=hm.short.drop _
   round:=⟨by show 0≤t.2.1;omega,by show t.2.1≤1000000000;omega⟩
   seen:=⟨z3.1,by show t.2.2.2.1≤60;have:=z3.2;omega⟩
   line:=by
    have hl:=hm.line;have hs:=hm.seen;have ha:=z3.1;show 0≤line∧line≤((dB (bE m.2.2.2.1 F):Nat):Int);rw [←hLN]
    split<;>split<;>(try split)<;>omega
   heard:=by
    have hl:=hm.heard;show 0≤m.q.2.2.2.2.1∧m.q.2.2.2.2.1≤((dB (bE m.2.2.2.1 F):Nat):Int);omega
   last:=.inr hnx }
  have afm:F.length=min 3 m.q.1.length∨t.2.2.1+((F.length:Nat):Int)=60:=by
   rcases q5 with h | h | ⟨h,h'⟩
   ·exact .inl h
   ·exact .inr (by omega)
   ·have:=hm.short _ h h;omega
  have afn:line=m.q.2.2.2.1∨(line≤m.q.2.2.1∧line≤t.2.2.2.1∧line≤((dB (bE m.2.2.2.1 F):Nat):Int)):=by
   rw [←hLN]
   split<;>split<;>(try split)<;>omega
  have ZP:∀x:Int,x≤m.q.2.2.1→x≤t.2.2.2.1→x≤((dB (bE m.2.2.2.1 F):Nat):Int)→x≤line:=by
   rw [←hLN];intro x x1 x2 x3
   split<;>split<;>(try split)<;>omega
  exact { wv:=⟨q1,q2,q3⟩,said:=by rw [hFF],id:=⟨rfl,rfl,rfl⟩,items:=by rw [hFF],words:=⟨rfl,rfl⟩,round:=⟨rfl,rfl,hle,rfl⟩,last:=rfl,nq:=hn,tq:=hnx,next:=⟨rfl,rfl,rfl⟩,aln:=afm,marks:=⟨m5.1.trans (by rw [q6]),m5.2.trans (by rw [q6])⟩,line:=afn,afl:=hlk,reach:=ZP }
 ·unfold qY
  try simp only [cX]
  simp only [af hc,ai (show ¬t.2.1≤m.q.2.1 by omega),ai (show ¬(1000000000:Int)≤t.2.1 by omega),kb2,kt2,p2,g2,hN,Option.bind_some,Bool.not_true,cond_false,cond_true,ak,az,af (show ((List.length F:Nat):Int)≤((List.length m.2.2.2.2.1:Nat):Int) by omega),af (show ((List.length F:Nat):Int)≤((List.length m.q.1:Nat):Int) by omega)];rw [Fg (hx:=hm.items) (hf:=hF) (hn:=by omega) ..];simp only [dZ,a2,m2,li,UB,c2,Option.bind_some,hLN];rw [aJ (show ((s7 t m.2.2.2.1).length+F.length)*40≤lim by unfold lim;omega)];rfl
 ·subst hLN;unfold qX
  try simp only [cX]
  simp only [af hc,ai (show ¬t.2.1≤m.q.2.1 by omega),ai (show ¬(1000000000:Int)≤t.2.1 by omega),kb1,kt1,p1,g1,s1,Option.bind_some,Bool.not_true,cond_false,cond_true,ak,az,af (show ((List.length F:Nat):Int)≤((List.length m.2.2.2.2.1:Nat):Int) by omega),af (show ((List.length F:Nat):Int)≤((List.length m.q.1:Nat):Int) by omega),
   aJ (show (0+(s7 t m.2.2.2.1).length)*40≤lim by unfold lim;omega),aJ (show (0+(List.drop F.length m.2.2.2.2.1).length)*8≤lim by rw [List.length_drop];unfold lim;omega),aJ (show (0+(List.drop F.length m.q.1).length)*16≤lim by rw [List.length_drop];unfold lim;omega),List.nil_append]
  rw [Fh (hx:=hm.items) (hf:=hF) (hn:=by omega) ..];simp only [dZ,a1,m1,Option.bind_some,aJ (show ((s7 t m.2.2.2.1).length+F.length)*40≤lim by unfold lim;omega),cond_true]
  by_cases h1:t.2.2.2.1<m.q.2.2.1
  ·rw [af h1,if_pos h1];simp only [cond_true]
   by_cases h2:((dB (bE m.2.2.2.1 F):Nat):Int)<t.2.2.2.1
   ·rw [af h2,if_pos h2];simp only [cond_true]
    by_cases h3:m.q.2.2.2.1<((dB (bE m.2.2.2.1 F):Nat):Int)
    ·rw [af h3,if_pos (show ((dB (bE m.2.2.2.1 F):Nat):Int)>m.q.2.2.2.1 from h3)];simp only [cond_true,ls,UB,c1,Option.bind_some]
    ·rw [ai h3,if_neg (show ¬((dB (bE m.2.2.2.1 F):Nat):Int)>m.q.2.2.2.1 from h3)];simp only [cond_false,ls,UB,c1,Option.bind_some]
   ·rw [ai h2,if_neg h2];simp only [cond_false]
    by_cases h3:m.q.2.2.2.1<t.2.2.2.1
    ·rw [af h3,if_pos (show t.2.2.2.1>m.q.2.2.2.1 from h3)];simp only [cond_true,ls,UB,c1,Option.bind_some]
    ·rw [ai h3,if_neg (show ¬t.2.2.2.1>m.q.2.2.2.1 from h3)];simp only [cond_false,ls,UB,c1,Option.bind_some]
  ·rw [ai h1,if_neg h1];simp only [cond_false]
   by_cases h2:((dB (bE m.2.2.2.1 F):Nat):Int)<m.q.2.2.1
   ·rw [af h2,if_pos h2];simp only [cond_true]
    by_cases h3:m.q.2.2.2.1<((dB (bE m.2.2.2.1 F):Nat):Int)
    ·rw [af h3,if_pos (show ((dB (bE m.2.2.2.1 F):Nat):Int)>m.q.2.2.2.1 from h3)];simp only [cond_true,ls,UB,c1,Option.bind_some]
    ·rw [ai h3,if_neg (show ¬((dB (bE m.2.2.2.1 F):Nat):Int)>m.q.2.2.2.1 from h3)];simp only [cond_false,ls,UB,c1,Option.bind_some]
   ·rw [ai h2,if_neg h2];simp only [cond_false]
    by_cases h3:m.q.2.2.2.1<m.q.2.2.1
    ·rw [af h3,if_pos (show m.q.2.2.1>m.q.2.2.2.1 from h3)];simp only [cond_true,ls,UB,c1,Option.bind_some]
    ·rw [ai h3,if_neg (show ¬m.q.2.2.1>m.q.2.2.2.1 from h3)];simp only [cond_false,ls,UB,c1,Option.bind_some]
noncomputable def G9 (m:eb) (t:kY):Bool:=xy m&&(FU t&&(decide (t.1=m.2.1)&&(decide (m.q.2.1<t.2.1)&&decide (t.2.1<1000000000))))
theorem Np (m:eb) (t:kY) (h:Cp m≤1048576) (hw:t.q.1.length≤1048576) (hn:G9 m t=false):qY m.1 m.2.1 m.2.2.1 m.2.2.2.1 m.2.2.2.2.1 m.q.1 m.q.2.1 m.q.2.2.1 m.q.2.2.2.1 m.q.2.2.2.2.1 m.q.q.1 m.q.q.2.1 m.q.q.2.2.1 m.q.q.2.2.2.1 m.q.q.2.2.2.2.1 m.q.q.q.1 t.1 t.2.1 t.2.2.1 t.2.2.2.1 t.2.2.2.2.1 t.q.1=some ((0:Int),(0:Int),[],[],[],[],(0:Int),(0:Int),(0:Int),(0:Int),(0:Int),(0:Int),(0:Int),(0:Int),(0:Int),[],[],(0:Int),(0:Int),(0:Int),(0:Int),(0:Int),(0:Int),[],false,())∧
  qX m.1 m.2.1 m.2.2.1 m.2.2.2.1 m.2.2.2.2.1 m.q.1 m.q.2.1 m.q.2.2.1 m.q.2.2.2.1 m.q.2.2.2.2.1 m.q.q.1 m.q.q.2.1 m.q.q.2.2.1 m.q.q.2.2.2.1 m.q.q.2.2.2.2.1 m.q.q.q.1 t.1 t.2.1 t.2.2.1 t.2.2.2.1 t.2.2.2.2.1 t.q.1=some (m.1,m.2.1,m.2.2.1,m.2.2.2.1,m.2.2.2.2.1,m.q.1,m.q.2.1,m.q.2.2.1,m.q.2.2.2.1,m.q.2.2.2.2.1,m.q.q.1,m.q.q.2.1,m.q.q.2.2.1,m.q.q.2.2.2.1,m.q.q.2.2.2.2.1,m.q.q.q.1,[],(0:Int),(0:Int),(0:Int),(0:Int),(0:Int),[],false,()):=by
 obtain ⟨k1,k2,_⟩:=zU m h;obtain ⟨t1,t2,_⟩:=Co t hw;obtain ⟨p1,_⟩:=mX m.1 m.2.1 m.2.2.1 m.2.2.2.1 m.2.2.2.2.1 m.q.1 m.q.2.1 m.q.2.2.1 m.q.2.2.2.1 m.q.2.2.2.2.1 m.q.q.1 m.q.q.2.1 m.q.q.2.2.1 m.q.q.2.2.2.1 m.q.q.2.2.2.2.1 m.q.q.q.1 h;unfold G9 at hn
 constructor
 ·unfold qY
  try simp only [cX]
  by_cases a1:t.1=m.2.1
  case neg=>rw [ai a1];rfl
  by_cases a2:m.q.2.1<t.2.1
  case neg=>rw [af a1,af (show t.2.1≤m.q.2.1 by omega)];rfl
  by_cases a3:t.2.1<1000000000
  case neg=>rw [af a1,ai (show ¬t.2.1≤m.q.2.1 by omega),af (show (1000000000:Int)≤t.2.1 by omega)];rfl
  rw [af a1,af a2,af a3] at hn;rw [af a1,ai (show ¬t.2.1≤m.q.2.1 by omega),ai (show ¬(1000000000:Int)≤t.2.1 by omega)];simp only [Bool.not_true,cond_false,k2,Option.bind_some]
  cases hb:xy m
  ·rfl
  ·rw [hb] at hn
   cases hc:FU t
   ·simp only [t2,hc,Bool.not_true,cond_false,Option.bind_some];rfl
   ·rw [hc] at hn;cases hn
 ·unfold qX
  try simp only [cX]
  simp only [p1,k1,Option.bind_some]
  cases hb:xy m
  ·rfl
  simp only [Bool.not_true,cond_false,t1,Option.bind_some]
  cases hc:FU t
  ·rfl
  by_cases a1:t.1=m.2.1
  case neg=>rw [ai a1];rfl
  by_cases a2:m.q.2.1<t.2.1
  case neg=>rw [af a1,af (show t.2.1≤m.q.2.1 by omega)];rfl
  by_cases a3:t.2.1<1000000000
  case neg=>rw [af a1,ai (show ¬t.2.1≤m.q.2.1 by omega),af (show (1000000000:Int)≤t.2.1 by omega)];rfl
  rw [af a1,af a2,af a3,hb,hc] at hn
  cases hn
end Go.TM
set_option linter.unusedSimpArgs false
set_option linter.unusedVariables false
namespace Go.TM
open Go
def UC:eb:=(0,0,[],[],[],[],0,0,0,0,0,0,0,0,0,[],())
def Fi (m:eb) (level:Int) (text:ByteArray):eb:=(m.1,m.2.1,m.2.2.1,m.2.2.2.1,m.2.2.2.2.1++[(level,())],m.q.1++[(text,())],m.q.2)
noncomputable def Ki (m:eb) (level:Int) (text:ByteArray):Bool:=xy m&&((decide (1≤level)&&decide (level≤2))&&(decide (ByteArray.size text≤60)&&decide (m.q.1.length<20)))
noncomputable def jj (m:eb) (level:Int) (text:ByteArray):eb×Bool:=bif Ki m level text then (Fi m level text,true) else (UC,false)
theorem Kj (m:eb) (level:Int) (text:ByteArray) (h:Cp m≤1048576):AZ m.1 m.2.1 m.2.2.1 m.2.2.2.1 m.2.2.2.2.1 m.q.1 m.q.2.1 m.q.2.2.1 m.q.2.2.2.1 m.q.2.2.2.2.1 m.q.q.1 m.q.q.2.1 m.q.q.2.2.1 m.q.q.2.2.2.1 m.q.q.2.2.2.2.1 m.q.q.q.1 level text=some ((jj m level text).1.1,(jj m level text).1.2.1,(jj m level text).1.2.2.1,(jj m level text).1.2.2.2.1,(jj m level text).1.2.2.2.2.1,(jj m level text).1.q.1,(jj m level text).1.q.2.1,(jj m level text).1.q.2.2.1,(jj m level text).1.q.2.2.2.1,(jj m level text).1.q.2.2.2.2.1,(jj m level text).1.q.q.1,(jj m level text).1.q.q.2.1,(jj m level text).1.q.q.2.2.1,(jj m level text).1.q.q.2.2.2.1,(jj m level text).1.q.q.2.2.2.2.1,(jj m level text).1.q.q.q.1,(jj m level text).2,())∧Ba m.1 m.2.1 m.2.2.1 m.2.2.2.1 m.2.2.2.2.1 m.q.1 m.q.2.1 m.q.2.2.1 m.q.2.2.2.1 m.q.2.2.2.2.1 m.q.q.1 m.q.q.2.1 m.q.q.2.2.1 m.q.q.2.2.2.1 m.q.q.2.2.2.2.1 m.q.q.q.1 level text=some ((jj m level text).1.1,(jj m level text).1.2.1,(jj m level text).1.2.2.1,(jj m level text).1.2.2.2.1,(jj m level text).1.2.2.2.2.1,(jj m level text).1.q.1,(jj m level text).1.q.2.1,(jj m level text).1.q.2.2.1,(jj m level text).1.q.2.2.2.1,(jj m level text).1.q.2.2.2.2.1,(jj m level text).1.q.q.1,(jj m level text).1.q.q.2.1,(jj m level text).1.q.q.2.2.1,(jj m level text).1.q.q.2.2.2.1,(jj m level text).1.q.q.2.2.2.2.1,(jj m level text).1.q.q.q.1,(jj m level text).2,()):=by
 obtain ⟨k1,k2,k3⟩:=zU m h;obtain ⟨p1,p2⟩:=mX m.1 m.2.1 m.2.2.1 m.2.2.2.1 m.2.2.2.2.1 m.q.1 m.q.2.1 m.q.2.2.1 m.q.2.2.2.1 m.q.2.2.2.2.1 m.q.q.1 m.q.q.2.1 m.q.q.2.2.1 m.q.q.2.2.2.1 m.q.q.2.2.2.2.1 m.q.q.q.1 h;unfold AZ Ba jj Ki;simp only [k1,k2,p1,p2,n5,xw,Option.bind_some]
 cases hb:xy m
 ·cases (decide (1≤level)&&decide (level≤2))
  ·exact ⟨rfl,rfl⟩
  cases decide ((60:Int)<((ByteArray.size text:Nat):Int))
  ·cases decide ((20:Int)≤((List.length m.q.1:Nat):Int))
   ·exact ⟨rfl,rfl⟩
   ·exact ⟨rfl,rfl⟩
  ·exact ⟨rfl,rfl⟩
 have hs:=(k3.1 hb).small;unfold Cp at hs
 cases (decide (1≤level)&&decide (level≤2))
 ·exact ⟨rfl,rfl⟩
 by_cases w1:ByteArray.size text≤60
 case neg=>rw [ai w1,af (show (60:Int)<((ByteArray.size text:Nat):Int) by omega)];exact ⟨rfl,rfl⟩
 by_cases w2:m.q.1.length<20
 case neg=>rw [af w1,ai w2,ai (show ¬(60:Int)<((ByteArray.size text:Nat):Int) by omega),af (show (20:Int)≤((List.length m.q.1:Nat):Int) by omega)];exact ⟨rfl,rfl⟩
 rw [af w1,af w2,ai (show ¬(60:Int)<((ByteArray.size text:Nat):Int) by omega),ai (show ¬(20:Int)≤((List.length m.q.1:Nat):Int) by omega)];simp only [Bool.not_true,cond_false,aJ (show (m.2.2.2.2.1.length+1)*8≤lim by unfold lim;omega),aJ (show (m.q.1.length+1)*16≤lim by unfold lim;omega),cond_true,Bool.and_true];exact ⟨rfl,rfl⟩
theorem FX (c:Int) (xs:dF) (h:xs.length≤1048576):dC c xs=some (c,xs,()):=by
 unfold dC;rw [oF _ h];rfl
end Go.TM
set_option linter.unusedSimpArgs false
set_option linter.unusedVariables false
namespace Go.TM
open Go
theorem Nq {m:eb} (hm:pr m) {level:Int} {text:ByteArray} (hl:1≤level∧level≤2) (ht:ByteArray.size text≤60) (hn:m.q.1.length<20):pr (Fi m level text):={
 ring:=hm.ring
 mem:=hm.mem
 items:=hm.items
 texts:=⟨by show (m.q.1++[(text,())]).length≤20;simp;omega,by show (m.2.2.2.2.1++[(level,())]).length=(m.q.1++[(text,())]).length;have:=hm.texts.2;simp;omega⟩
 Uw:=fun j hj _=>by
  have hj:j<(m.2.2.2.2.1++[(level,())]).length:=hj;show (decide (1≤(m.2.2.2.2.1++[(level,())])[j].1)&&decide ((m.2.2.2.2.1++[(level,())])[j].1≤2))=true
  by_cases h:j<m.2.2.2.2.1.length
  ·rw [List.getElem_append_left h];exact hm.Uw j h h
  ·have:j=m.2.2.2.2.1.length:=by simp at hj;omega
   subst this;simp [hl.1,hl.2]
 short:=fun j hj _=>by
  have hj:j<(m.q.1++[(text,())]).length:=hj;show ByteArray.size (m.q.1++[(text,())])[j].1≤60
  by_cases h:j<m.q.1.length
  ·rw [List.getElem_append_left h];exact hm.short j h h
  ·have:j=m.q.1.length:=by simp at hj;omega
   subst this;simpa using ht
 round:=hm.round
 seen:=hm.seen
 line:=hm.line
 heard:=hm.heard
 last:=hm.last }
theorem Ii {c2 d:Int} {lv:dF} {tx:List (ByteArray×Unit)} {m k:Nat} (hk:k<(dL c2 d lv tx m).length):(dL c2 d lv tx m)[k]=xX c2 d lv tx k:=by
 simp [dL]
theorem vM {c2 d:Int} {lv:dF} {tx:List (ByteArray×Unit)} {m:Nat} {f:dn} (hf:f∈dL c2 d lv tx m):∃k,k<m∧f=xX c2 d lv tx k:=by
 obtain ⟨k,hk,rfl⟩:=List.mem_iff_getElem.1 hf;rw [j3] at hk;exact ⟨k,hk,Ii _⟩
def Cs (m:eb) (v:Int):eb:=(m.1,m.2.1,m.2.2.1,m.2.2.2.1,m.2.2.2.2.1,m.q.1,m.q.2.1,m.q.2.2.1,m.q.2.2.2.1,v,m.q.2.2.2.2.2)
theorem Nr {m:eb} (hm:pr m):∃(k:Nat) (n:eb),n=Cs m (m.q.2.2.2.2.1+((k:Nat):Int))∧tZ m.1 m.2.1 m.2.2.1 m.2.2.2.1 m.2.2.2.2.1 m.q.1 m.q.2.1 m.q.2.2.1 m.q.2.2.2.1 m.q.2.2.2.2.1 m.q.q.1 m.q.q.2.1 m.q.q.2.2.1 m.q.q.2.2.2.1 m.q.q.2.2.2.2.1 m.q.q.q.1=some (n.1,n.2.1,n.2.2.1,n.2.2.2.1,n.2.2.2.2.1,n.q.1,n.q.2.1,n.q.2.2.1,n.q.2.2.2.1,n.q.2.2.2.2.1,n.q.q.1,n.q.q.2.1,n.q.q.2.2.1,n.q.q.2.2.2.1,n.q.q.2.2.2.2.1,n.q.q.q.1,ji m.2.2.2.1 m.q.2.2.2.2.1 k,())∧tV m.1 m.2.1 m.2.2.1 m.2.2.2.1 m.2.2.2.2.1 m.q.1 m.q.2.1 m.q.2.2.1 m.q.2.2.2.1 m.q.2.2.2.2.1 m.q.q.1 m.q.q.2.1 m.q.q.2.2.1 m.q.q.2.2.2.1 m.q.q.2.2.2.2.1 m.q.q.q.1=some (n.1,n.2.1,n.2.2.1,n.2.2.2.1,n.2.2.2.2.1,n.q.1,n.q.2.1,n.q.2.2.1,n.q.2.2.2.1,n.q.2.2.2.2.1,n.q.q.1,n.q.q.2.1,n.q.q.2.2.1,n.q.q.2.2.2.1,n.q.q.2.2.2.2.1,n.q.q.q.1,ji m.2.2.2.1 m.q.2.2.2.2.1 k,())∧pr n∧
  m.q.2.2.2.2.1+((k:Nat):Int)≤((dB m.2.2.2.1:Nat):Int)∧(∀j,j<k→¬yD m.2.2.2.1 m.q.2.2.2.1 (m.q.2.2.2.2.1+((j+1:Nat):Int)))∧(m.q.2.2.2.2.1+((k:Nat):Int)<((dB m.2.2.2.1:Nat):Int)→yD m.2.2.2.1 m.q.2.2.2.1 (m.q.2.2.2.2.1+((k+1:Nat):Int))):=by
 have hw:=hm.small;have hb:=(zU m (Nat.le_trans hw (by decide))).2.2.2 hm;obtain ⟨k,v,h1,h2,h3,_,h5⟩:=Sg m (Nat.le_trans hw (by decide));subst h3;obtain ⟨g1,g2,g3⟩:=h5 hb;have hh:=hm.heard;exact ⟨k,_,rfl,h2,h1,{ ring:=hm.ring,mem:=hm.mem,items:=hm.items,texts:=hm.texts,Uw:=hm.Uw,short:=hm.short,round:=hm.round,seen:=hm.seen,line:=hm.line,heard:=⟨by show 0≤m.q.2.2.2.2.1+((k:Nat):Int);omega,g1⟩,last:=hm.last },g1,g2,g3⟩
end Go.TM
set_option linter.unusedSimpArgs false
set_option linter.unusedVariables false
namespace Go.TM
open Go
def ZQ (code:List (Int×Unit)) (at_:Int):Prop:=0≤at_∧at_≤((code.length:Nat):Int)∧code.length≤1048576
def am9 (code:List (Int×Unit)) (o:Option (Int×(List (Int×Unit))×Int×Int×Unit)) (lo hi:Int):Prop:=
 ∃v at' s',o=some (v,code,at',s',())∧lo≤v∧v<hi∧ZQ code at'
end Go.TM
set_option linter.unusedSimpArgs false
set_option linter.unusedVariables false
namespace Go.TM
open Go
end Go.TM
set_option linter.unusedSimpArgs false
set_option linter.unusedVariables false
namespace Go.TM
open Go
end Go.TM
set_option linter.unusedSimpArgs false
set_option linter.unusedVariables false
namespace Go.TM
open Go
def Ij (xs:List (Int×Unit)) (m:Nat):Prop:=xs.length≤m∧(∀j (hj:j<xs.length),1≤xs[j].1∧xs[j].1≤((m:Nat):Int))∧∀i j (hi:i<xs.length) (hj:j<xs.length),i<j→xs[i].1<xs[j].1
theorem Ij.up {xs:List (Int×Unit)} {m:Nat} (h:Ij xs m):Ij xs (m+1):=
 ⟨by have:=h.1;omega,fun j hj=>by have:=h.2.1 j hj;omega,h.2.2⟩
structure VP (c:Int) (xs:List (Int×Unit)):Prop where
 Bu:1≤c
 id2:c≤9
 some_:1≤xs.length
 rising:Ij xs 5
theorem VP.len {c:Int} {xs:List (Int×Unit)} (h:VP c xs):xs.length≤5:=h.rising.1
end Go.TM
set_option linter.unusedSimpArgs false
set_option linter.unusedVariables false
namespace Go.TM
open Go
abbrev alp:Type:=Int×Int×(List (Int×Unit))×aS×(List (Int×Unit))×(List (ByteArray×Unit))×Int×Int×Int×Int×Int×Int×Int×Int×Int×(List (Int×Unit))×Unit
def qR (c:Int) (xs:List (Int×Unit)) (id:Int):alp:=(id,c,xs,[],[],[],0,0,0,0,0,0,0,0,0,[],())
theorem Ik (c:Int) (xs:List (Int×Unit)) (id:Int) (h:xs.length≤1048576) (hr:db c xs=some (true,())) (hm:(id,())∈xs):gw id c xs=some (id,c,xs,[],[],[],0,0,0,0,0,0,0,0,0,[],true,()):=by
 unfold gw;simp only [hr,Bg _ _ h,af hm,Option.bind_some,Bool.not_true,cond_false,aJ (show (0+xs.length)*8≤lim by unfold lim;omega),cond_true,List.nil_append]
theorem Il (c:Int) (xs:List (Int×Unit)) (id:Int) (h:xs.length≤1048576) (hr:eX c xs=some (true,())) (hm:(id,())∈xs):qJ id c xs=some (id,c,xs,[],[],[],0,0,0,0,0,0,0,0,0,[],true,()):=by
 unfold qJ dC;simp only [hr,H8 _ _ h,af hm,Option.bind_some,Bool.not_true,cond_false,oF xs h]
theorem map_take {α β:Type} (f:α→β) (xs:List α) {k:Nat} (hk:k<xs.length):(xs.take (k+1)).map f=(xs.take k).map f++[f xs[k]]:=by
 rw [List.take_succ_eq_append_getElem hk,List.map_append];rfl
end Go.TM
set_option linter.unusedSimpArgs false
set_option linter.unusedVariables false
namespace Go.TM
open Go
abbrev mh:Type:=Int×Bool×Int×Int×Int×Int×Int×dF×Int×Int×Int×ByteArray×Unit
abbrev UD:Type:=List (aS×Unit)
abbrev bt:Type:=Int×dF×List eb×List mh×UD×aS×Unit
def pt (w:bt) (k:Nat) (m:eb):bt:=(w.1,w.2.1,w.2.2.1.set k m,w.2.2.2)
def iV (w:bt) (l:List mh):bt:=(w.1,w.2.1,w.2.2.1,l,w.2.2.2.2)
def ZR (w:bt) (l:UD):bt:=(w.1,w.2.1,w.2.2.1,w.2.2.2.1,l,w.2.2.2.2.2)
def ZS (w:bt) (l:aS):bt:=(w.1,w.2.1,w.2.2.1,w.2.2.2.1,w.2.2.2.2.1,l,())
theorem Mk (w:bt) (h:w.2.2.1.length≤1048576) (id:Int):∃a,om w.1 w.2.1 w.2.2.1 w.2.2.2.1 w.2.2.2.2.1 w.q.1 id=some (a,w.1,w.2.1,w.2.2.1,w.2.2.2.1,w.2.2.2.2.1,w.q.1,())∧((a = -1∧∀k (hk:k<w.2.2.1.length),(w.2.2.1[k]).1≠id)∨∃k,∃hk:k<w.2.2.1.length,a=((k:Nat):Int)∧(w.2.2.1[k]).1=id):=by
 obtain ⟨e,he,hq⟩:=dw (round:=kx) (x:=(w.1,w.2.1,w.2.2.1,w.2.2.2.1,w.2.2.2.2.1,w.q.1,id,((0:Nat):Int),())) w.2.2.1.length (fun k x=>x=(w.1,w.2.1,w.2.2.1,w.2.2.2.1,w.2.2.2.2.1,w.q.1,id,((k:Nat):Int),())∧∀j (hj:j<w.2.2.1.length),j<k→(w.2.2.1[j]).1≠id)
  (fun e=>(e=.inl (w.1,w.2.1,w.2.2.1,w.2.2.2.1,w.2.2.2.2.1,w.q.1,())∧∀k (hk:k<w.2.2.1.length),(w.2.2.1[k]).1≠id)∨∃k,∃hk:k<w.2.2.1.length,e=.inr (w.1,w.2.1,w.2.2.1,w.2.2.2.1,w.2.2.2.2.1,w.q.1,((k:Nat):Int),())∧(w.2.2.1[k]).1=id) (by
   rintro x ⟨rfl,g⟩
   exact ⟨_,by simp only [kx,tj,aC,cond_false],.inl ⟨rfl,fun k hk=>g k hk hk⟩⟩) (by
   rintro k x hk ⟨rfl,g⟩
   simp only [kx,tj,ax hk,ak,cond_true,az,List.getElem?_eq_getElem hk,Option.bind_some,aE (show k<4611686018427387904 by omega)]
   by_cases e:(w.2.2.1[k]).1=id
   ·rw [af e];exact .inl ⟨_,rfl,.inr ⟨k,hk,rfl,e⟩⟩
   ·rw [ai e];refine .inr ⟨_,rfl,rfl,fun j hj x8 => ?_⟩
    by_cases e2:j<k
    ·exact g j hj e2
    ·have:j=k:=by omega
     subst this;exact e) ⟨rfl,fun j hj h=>by omega⟩
 have he:aG kx (w.1,w.2.1,w.2.2.1,w.2.2.2.1,w.2.2.2.2.1,w.q.1,id,(0:Int),())=some e:=he;unfold om;rw [he];rcases hq with ⟨rfl,g⟩ | ⟨k,hk,rfl,g⟩
 ·exact ⟨_,rfl,.inl ⟨rfl,g⟩⟩
 ·exact ⟨_,rfl,.inr ⟨k,hk,rfl,g⟩⟩
theorem pv (w:bt) (h:w.2.2.1.length≤1048576) {k:Nat} (hk:k<w.2.2.1.length) (m:eb):jW w.1 w.2.1 w.2.2.1 w.2.2.2.1 w.2.2.2.2.1 w.q.1 ((k:Nat):Int) m.1 m.2.1 m.2.2.1 m.2.2.2.1 m.2.2.2.2.1 m.q.1 m.q.2.1 m.q.2.2.1 m.q.2.2.2.1 m.q.2.2.2.2.1 m.q.q.1 m.q.q.2.1 m.q.q.2.2.1 m.q.q.2.2.2.1 m.q.q.2.2.2.2.1 m.q.q.q.1=some ((pt w k m).1,(pt w k m).2.1,(pt w k m).2.2.1,(pt w k m).2.2.2.1,(pt w k m).2.2.2.2.1,(pt w k m).q.1,()):=by
 unfold jW;simp only [aJ (show (0+w.2.2.1.length)*208≤lim by unfold lim;omega),ak,az,List.nil_append,cS hk,List.getElem?_eq_getElem hk,Option.bind_some,cond_true];rfl
def gG (ms:List eb) (id:Int) (x:dn):List mh:=(ms.filter fun m => !decide (m.1=id)).map fun m=>(m.1,false,0,0,0,0,0,[],x.1,x.2.1,x.2.2.1,x.2.2.2.1,())
def de (ms:List eb) (id:Int) (l:aS):List mh:=l.flatMap (gG ms id)
theorem Im (ms:List eb) (id:Int) (x:dn) {k:Nat} (hk:k<ms.length):gG (ms.take (k+1)) id x=gG (ms.take k) id x++(bif !decide (ms[k].1=id) then [(ms[k].1,false,0,0,0,0,0,[],x.1,x.2.1,x.2.2.1,x.2.2.2.1,())] else []):=by
 unfold gG;rw [List.take_succ_eq_append_getElem hk,List.filter_append,List.map_append,List.filter_cons]
 cases decide (ms[k].1=id)<;>rfl
theorem C9 (ms:List eb) (id:Int) (x:dn):(gG ms id x).length≤ms.length:=by
 unfold gG;rw [List.length_map];exact List.length_filter_le _ _
theorem Fj (ms:List eb) (id:Int) (l:aS) {k:Nat} (hk:k<l.length):de ms id (l.take (k+1))=de ms id (l.take k)++gG ms id l[k]:=by
 unfold de;rw [List.take_succ_eq_append_getElem hk,List.flatMap_append];simp
theorem mZ (ms:List eb) (id:Int) (n:Nat) (hn:ms.length≤n):(l:aS)→(de ms id l).length≤n*l.length
 | []=>Nat.zero_le _
 |x::l=>by
  have h1:=C9 ms id x;have h2:=mZ ms id n hn l;show (gG ms id x++de ms id l).length≤n*(l.length+1);rw [List.length_append,Nat.mul_succ];omega
theorem xY {ms:List eb} {id:Int} {l:aS} {f:mh} (h:f∈de ms id l):∃m∈ms,∃x∈l,m.1≠id∧f=(m.1,false,0,0,0,0,0,[],x.1,x.2.1,x.2.2.1,x.2.2.2.1,()):=by
 unfold de gG at h;obtain ⟨x,hx,h⟩:=List.mem_flatMap.1 h;obtain ⟨m,hm,rfl⟩:=List.mem_map.1 h;obtain ⟨hm,hn⟩:=List.mem_filter.1 hm;refine ⟨m,hm,x,hx,fun e => ?_,rfl⟩;rw [af e] at hn
 cases hn
theorem Fk (w:bt) (id:Int) (l:aS) (h1:w.2.2.1.length≤5) (h2:w.2.2.2.1.length≤1073741824) (h3:l.length≤1048576):nA w.1 w.2.1 w.2.2.1 w.2.2.2.1 w.2.2.2.2.1 w.q.1 id l=some ((iV w (w.2.2.2.1++de w.2.2.1 id l)).1,(iV w (w.2.2.2.1++de w.2.2.1 id l)).2.1,(iV w (w.2.2.2.1++de w.2.2.1 id l)).2.2.1,(iV w (w.2.2.2.1++de w.2.2.1 id l)).2.2.2.1,(iV w (w.2.2.2.1++de w.2.2.1 id l)).2.2.2.2.1,(iV w (w.2.2.2.1++de w.2.2.1 id l)).q.1,()):=by
 have inner:∀(fl:List mh) (i:Nat) (hi:i<l.length),fl.length≤2147483648→aG gi (w.1,w.2.1,w.2.2.1,w.2.2.2.1,w.2.2.2.2.1,w.q.1,id,l,fl,((i:Nat):Int),(0:Int),())=some (.inl (w.1,w.2.1,w.2.2.1,w.2.2.2.1,w.2.2.2.2.1,w.q.1,id,l,fl++gG w.2.2.1 id l[i],((i:Nat):Int),())):=by
  intro fl i hi hf;have l1:=bD (round:=gi) (e:=.inl (w.1,w.2.1,w.2.2.1,w.2.2.2.1,w.2.2.2.2.1,w.q.1,id,l,fl++gG w.2.2.1 id l[i],((i:Nat):Int),())) w.2.2.1.length (fun k=>(w.1,w.2.1,w.2.2.1,w.2.2.2.1,w.2.2.2.2.1,w.q.1,id,l,fl++gG (w.2.2.1.take k) id l[i],((i:Nat):Int),((k:Nat):Int),())) (by
   simp only [gi,pM,aC,cond_false,List.take_length]) (fun k hk=>by
   have hb:Nat.ble (((fl++gG (w.2.2.1.take k) id l[i]).length+1)*120) lim=true:=aJ (by
    have:=C9 (w.2.2.1.take k) id l[i];rw [List.length_take] at this;rw [List.length_append];unfold lim;omega)
   rw [Im w.2.2.1 id l[i] hk];simp only [gi,pM,ax hk,ak,cond_true,az,List.getElem?_eq_getElem hk,List.getElem?_eq_getElem hi,Option.bind_some,aE (show k<4611686018427387904 by omega),hb]
   cases decide ((w.2.2.1[k]).1=id)
   ·simp only [Bool.not_false,cond_true,List.append_assoc]
   ·simp only [Bool.not_true,cond_false,List.append_nil])
  have l1:aG gi (w.1,w.2.1,w.2.2.1,w.2.2.2.1,w.2.2.2.2.1,w.q.1,id,l,fl++gG (w.2.2.1.take 0) id l[i],((i:Nat):Int),(0:Int),())=_:=l1
  rwa [show gG (w.2.2.1.take 0) id l[i]=[] from rfl,List.append_nil] at l1
 have l2:=bD (round:=iv) (e:=.inl (w.1,w.2.1,w.2.2.1,w.2.2.2.1,w.2.2.2.2.1,w.q.1,w.2.2.2.1++de w.2.2.1 id l,())) l.length (fun k=>(w.1,w.2.1,w.2.2.1,w.2.2.2.1,w.2.2.2.2.1,w.q.1,id,l,w.2.2.2.1++de w.2.2.1 id (l.take k),((k:Nat):Int),())) (by
  simp only [iv,pN,aC,cond_false,List.take_length]) (fun k hk=>by
  have hl:=mZ w.2.2.1 id 5 h1 (l.take k);rw [List.length_take] at hl;rw [Fj w.2.2.1 id l hk];simp only [iv,pN,ax hk,cond_true,inner _ k hk (show (w.2.2.2.1++de w.2.2.1 id (l.take k)).length≤2147483648 by rw [List.length_append];omega),bO,Option.bind_some,aE (show k<4611686018427387904 by omega),List.append_assoc])
 have l2:aG iv (w.1,w.2.1,w.2.2.1,w.2.2.2.1,w.2.2.2.2.1,w.q.1,id,l,w.2.2.2.1++de w.2.2.1 id (l.take 0),(0:Int),())=_:=l2;rw [show de w.2.2.1 id (l.take 0)=[] from rfl,List.append_nil] at l2;unfold nA;simp only [aJ (show (0+w.2.2.2.1.length)*120≤lim by unfold lim;omega),cond_true,List.nil_append,l2,bO,Option.bind_some];rfl
theorem xZ (a b:Nat):Int.tmod ((a:Nat):Int) ((b:Nat):Int)=((a % b:Nat):Int):=rfl
noncomputable def il (c:Int) (xs:dF) (id:Int):Int:=match bX c xs id with | some x=>x.1 | none=>0
theorem UE (c:Int) (xs:dF) (id:Int) (h:xs.length≤1048576):bX c xs id=some (il c xs id,()):=by
 have key:∃b,bX c xs id=some (b,()):=by
  unfold bX;rw [(ig c xs h).1]
  cases lB c xs
  ·exact ⟨0,rfl⟩
  obtain ⟨e,he,_⟩:=dw (round:=cU) (x:=(id,c,xs,((0:Nat):Int),())) xs.length (fun k x=>x=(id,c,xs,((k:Nat):Int),())) (fun _=>True) (by
    rintro x rfl
    exact ⟨.inl (),by simp only [cU,jx,aC,cond_false],trivial⟩) (by
    rintro k x hk rfl
    have hm:(k+1) % xs.length<xs.length:=Nat.mod_lt _ (by omega);simp only [cU,jx,ax hk,ak,cond_true,az,List.getElem?_eq_getElem hk,Option.bind_some,aE (show k<4611686018427387904 by omega),xZ,List.getElem?_eq_getElem hm,ai (show ¬((List.length xs:Nat):Int)=0 by omega),cond_false]
    cases decide (xs[k].1=id)
    ·exact .inr ⟨_,rfl,rfl⟩
    ·exact .inl ⟨_,rfl,trivial⟩) rfl
  have he:aG cU (id,c,xs,(0:Int),())=some e:=he;simp only [Option.bind_some,Bool.not_true,cond_false,he]
  cases e
  ·exact ⟨_,rfl⟩
  ·exact ⟨_,rfl⟩
 obtain ⟨b,h1⟩:=key;have:il c xs id=b:=by unfold il;rw [h1]
 rw [this];exact h1
def ff (to_:Int) (t:kY):mh:=(to_,true,t.1,t.2.1,t.2.2.1,t.2.2.2.1,t.2.2.2.2.1,t.q.1,0,0,0,ByteArray.empty,())
theorem Ct (w:bt) (id:Int) (t:kY) (h1:w.2.1.length≤1048576) (h2:w.2.2.2.1.length≤2147483648) (h3:t.q.1.length≤1048576):ky w.1 w.2.1 w.2.2.1 w.2.2.2.1 w.2.2.2.2.1 w.q.1 id t.1 t.2.1 t.2.2.1 t.2.2.2.1 t.2.2.2.2.1 t.q.1=some ((iV w (w.2.2.2.1++[ff (il w.1 w.2.1 id) t])).1,(iV w (w.2.2.2.1++[ff (il w.1 w.2.1 id) t])).2.1,(iV w (w.2.2.2.1++[ff (il w.1 w.2.1 id) t])).2.2.1,(iV w (w.2.2.2.1++[ff (il w.1 w.2.1 id) t])).2.2.2.1,(iV w (w.2.2.2.1++[ff (il w.1 w.2.1 id) t])).2.2.2.2.1,(iV w (w.2.2.2.1++[ff (il w.1 w.2.1 id) t])).q.1,()):=by
 unfold ky
 try simp only [cX]
 simp only [aJ (show (0+w.2.2.2.1.length)*120≤lim by unfold lim;omega),UE w.1 w.2.1 id h1,(gF t.1 t.2.1 t.2.2.1 t.2.2.2.1 t.2.2.2.2.1 t.q.1 h3).1,Option.bind_some,cond_true,List.nil_append,aJ (show (w.2.2.2.1.length+1)*120≤lim by unfold lim;omega)];rfl
def Fl (m:eb):aS:=m.2.2.2.1.filter fun x=>decide (x.2.1=m.1)
def ie (m:eb):kY:=(m.q.q.1,m.q.q.2.1,m.q.q.2.2.1,m.q.q.2.2.2.1,m.q.q.2.2.2.2.1,m.q.q.q.1,())
noncomputable def tu (w:bt) (m:eb):bt:=iV w (w.2.2.2.1++[ff (il w.1 w.2.1 m.1) (ie m)]++de w.2.2.1 m.1 (Fl m))
theorem Ha (w:bt) {k:Nat} (hk:k<w.2.2.1.length) (h1:w.2.2.1.length≤5) (h2:w.2.2.2.1.length≤1073741823) (h3:w.2.1.length≤1048576) (h4:(w.2.2.1[k]).2.2.2.1.length≤1048576) (h5:(w.2.2.1[k]).q.q.q.1.length≤1048576) :
  kz w.1 w.2.1 w.2.2.1 w.2.2.2.1 w.2.2.2.2.1 w.q.1 ((k:Nat):Int)=(bif oG (ie w.2.2.1[k]) then some ((1:Int),w.1,w.2.1,w.2.2.1,w.2.2.2.1,w.2.2.2.2.1,w.q.1,()) else some ((0:Int),(tu w w.2.2.1[k]).1,(tu w w.2.2.1[k]).2.1,(tu w w.2.2.1[k]).2.2.1,(tu w w.2.2.1[k]).2.2.2.1,(tu w w.2.2.1[k]).2.2.2.2.1,(tu w w.2.2.1[k]).q.1,())):=by
 generalize hm:w.2.2.1[k]=m at *;have l1:=bD (round:=gN) (e:=.inl (w.1,w.2.1,w.2.2.1,w.2.2.2.1,w.2.2.2.2.1,w.q.1,m.1,m.2.1,m.2.2.1,m.2.2.2.1,m.2.2.2.2.1,m.q.1,m.q.2.1,m.q.2.2.1,m.q.2.2.2.1,m.q.2.2.2.2.1,m.q.q.1,m.q.q.2.1,m.q.q.2.2.1,m.q.q.2.2.2.1,m.q.q.2.2.2.2.1,m.q.q.q.1,Fl m,())) m.2.2.2.1.length (fun i=>(w.1,w.2.1,w.2.2.1,w.2.2.2.1,w.2.2.2.2.1,w.q.1,m.1,m.2.1,m.2.2.1,m.2.2.2.1,m.2.2.2.2.1,m.q.1,m.q.2.1,m.q.2.2.1,m.q.2.2.2.1,m.q.2.2.2.2.1,m.q.q.1,m.q.q.2.1,m.q.q.2.2.1,m.q.q.2.2.2.1,m.q.q.2.2.2.2.1,m.q.q.q.1,(m.2.2.2.1.take i).filter (fun x=>decide (x.2.1=m.1)),((i:Nat):Int),())) (by
  simp only [gN,ot,aC,cond_false,List.take_length];rfl) (fun i hi=>by
  have hb:Nat.ble ((((m.2.2.2.1.take i).filter (fun x=>decide (x.2.1=m.1))).length+1)*40) lim=true:=aJ (by
   have:=List.length_filter_le (fun x:dn=>decide (x.2.1=m.1)) (m.2.2.2.1.take i);rw [List.length_take] at this;unfold lim;omega)
  rw [List.take_succ_eq_append_getElem hi,List.filter_append,List.filter_cons];simp only [gN,ot,ax hi,ak,cond_true,az,List.getElem?_eq_getElem hi,Option.bind_some,aE (show i<4611686018427387904 by omega),hb]
  by_cases e:(m.2.2.2.1[i]).2.1=m.1
  ·rw [af e];rfl
  ·rw [ai e];simp only [cond_false];rw [if_neg (by decide)];simp)
 have l1:aG gN (w.1,w.2.1,w.2.2.1,w.2.2.2.1,w.2.2.2.2.1,w.q.1,m.1,m.2.1,m.2.2.1,m.2.2.2.1,m.2.2.2.2.1,m.q.1,m.q.2.1,m.q.2.2.1,m.q.2.2.2.1,m.q.2.2.2.2.1,m.q.q.1,m.q.q.2.1,m.q.q.2.2.1,m.q.q.2.2.2.1,m.q.q.2.2.2.2.1,m.q.q.q.1,[],(0:Int),())=_:=l1;unfold kz;have hb:eH m.q.q.1 m.q.q.2.1 m.q.q.2.2.1 m.q.q.2.2.2.1 m.q.q.2.2.2.2.1 m.q.q.q.1=some (oG (ie m),()):=(sq (ie m)).1;simp only [ak,cond_true,az,List.getElem?_eq_getElem hk,hm,Option.bind_some,hb]
 cases oG (ie m)
 ·have t1:ky w.1 w.2.1 w.2.2.1 w.2.2.2.1 w.2.2.2.2.1 w.q.1 m.1 m.q.q.1 m.q.q.2.1 m.q.q.2.2.1 m.q.q.2.2.2.1 m.q.q.2.2.2.2.1 m.q.q.q.1=_:=Ct w m.1 (ie m) h3 (by omega) h5;have t2:=Fk (iV w (w.2.2.2.1++[ff (il w.1 w.2.1 m.1) (ie m)])) m.1 (Fl m) h1 (by show (w.2.2.2.1++[_]).length≤_;rw [List.length_append,List.length_singleton];omega) (Nat.le_trans (List.length_filter_le _ _) h4);simp only [cond_false,l1,bO,t1,Option.bind_some,t2];rfl
 ·rfl
structure Sn (f:mh):Prop where
 tok:f.2.1=true→Cn (f.2.2.1,f.2.2.2.1,f.2.2.2.2.1,f.q.1,f.q.2.1,f.q.2.2.1,())
 item:f.2.1=false→mg (f.q.2.2.2.1,f.q.2.2.2.2.1,f.q.q.1,f.q.q.2.1,())
 wv:f.q.2.2.1.length≤20
structure fZ (n:Nat) (c:Int) (ms:dF) (w:bt):Prop where
 ring:qt c ms
 self:w.1=c∧w.2.1=ms
 len:w.2.2.1.length=ms.length
 ids:∀k (hk:k<w.2.2.1.length) (hm:k<ms.length),(w.2.2.1[k]).1=ms[k].1
 pw:∀m∈w.2.2.1,pr m∧m.2.1=c∧m.2.2.1=ms
 Bn:∀f∈w.2.2.2.1,Sn f
 wv:w.2.2.2.1.length≤400*(n+1)
 heard:w.2.2.2.2.1.length=ms.length
 list:∀h∈w.2.2.2.2.1,h.1.length≤60*n
 said:(∀x∈w.q.1,mg x)∧w.q.1.length≤63*n
theorem fZ.up {n n':Nat} {c:Int} {ms:dF} {w:bt} (h:fZ n c ms w) (hn:n≤n'):fZ n' c ms w:=
 { h with wv:=by have:=h.wv;omega,list:=fun x hx=>by have:=h.list x hx;omega,said:=⟨h.said.1,by have:=h.said.2;omega⟩ }
theorem fZ.px {n:Nat} {c:Int} {ms:dF} {w:bt} (h:fZ n c ms w) {k:Nat} (hk:k<w.2.2.1.length) {m:eb} (hm:pr m) (h1:m.1=(w.2.2.1[k]).1) (h2:m.2.1=(w.2.2.1[k]).2.1) (h3:m.2.2.1=(w.2.2.1[k]).2.2.1):fZ n c ms (pt w k m):=
 {
  h with
  len:=by show (w.2.2.1.set k m).length=_;rw [List.length_set];exact h.len
  ids:=fun j hj zW=>by
   have hj:j<(w.2.2.1.set k m).length:=hj;show ((w.2.2.1.set k m)[j]).1=_;rw [List.getElem_set];rw [List.length_set] at hj
   split
   ·rename_i e;subst e;rw [h1];exact h.ids k hk zW
   ·exact h.ids j hj zW
  pw:=fun x hx=>by
   have hx:x∈w.2.2.1.set k m:=hx;rcases List.mem_or_eq_of_mem_set hx with hx | rfl
   ·exact h.pw x hx
   ·have:=h.pw _ (List.getElem_mem hk);exact ⟨hm,h2.trans this.2.1,h3.trans this.2.2⟩ }
theorem fZ.Bo {n:Nat} {c:Int} {ms:dF} {w:bt} (h:fZ n c ms w) {l:List mh} (h1:∀f∈l,Sn f) (h2:l.length≤400*(n+1)):fZ n c ms (iV w l):={ h with Bn:=h1,wv:=h2 }
theorem Fm {a:Int} {t:kY} (h:Cn t):Sn (ff a t):=⟨fun _=>h,fun e=>(by cases e),h.q.1⟩
theorem Hb {ms:List eb} {id:Int} {l:aS} (h:∀x∈l,mg x):∀f∈de ms id l,Sn f:=by
 intro f hf;obtain ⟨m,_,x,hx,_,rfl⟩:=xY hf;exact ⟨fun e=>(by cases e),fun _=>h x hx,Nat.zero_le _⟩
theorem fZ.Dp {n:Nat} {c:Int} {ms:dF} {w:bt} (h:fZ n c ms w):w.2.2.1.length≤5∧w.2.1.length≤5∧ms.length≤5:=by
 have:=h.ring.2.1.2;have:=h.len;rw [h.self.2];omega
theorem Fo {m:eb} (hm:pr m) {x:dn} (hx:mg x):pr (ra m (m8 m.2.2.2.1 x)):=by
 have hi:=(cm _ hm.items).1;have hp:=E7 hm.items hx;have UR:=(cm _ hp).1;have ha:dB m.2.2.2.1≤dB (m8 m.2.2.2.1 x):=Kh (by omega) (by omega) fun r hr=>⟨r,Cr hr,rfl⟩
 exact { hm with
  items:=hp
  line:=⟨hm.line.1,by have:=hm.line.2;show m.q.2.2.2.1≤((dB (m8 m.2.2.2.1 x):Nat):Int);omega⟩
  heard:=⟨hm.heard.1,by have:=hm.heard.2;show m.q.2.2.2.2.1≤((dB (m8 m.2.2.2.1 x):Nat):Int);omega⟩ }
theorem Hc {m:eb} (hm:pr m) {x:dn} (hx:mg x):qg m x=ra m (m8 m.2.2.2.1 x):=by
 have hi:=(cm _ hm.items).1;unfold qg Pt;rw [(zU m (Nat.le_trans hm.small (by decide))).2.2.2 hm,(xx _ (by omega)).2.2.2 hm.items,(Bi x).2.2.2 hx];rfl
end Go.TM
set_option linter.unusedSimpArgs false
set_option linter.unusedVariables false
namespace Go.TM
open Go
theorem Kk {ms:dF} (h:Mc ms ms.length) {i j:Nat} (hj:j<ms.length) (hij:i<j):(ms[i]'(by omega)).1<ms[j].1:=by
 have key:∀(d i:Nat) (hi:i+d+1<ms.length),ms[i].1<ms[i+d+1].1:=by
  intro d
  induction d with
  |zero=>intro i hi;exact (h (i+1) hi hi).2 (by omega)
  |succ d ih=>
   intro i hi;have h1:=ih i (by omega);have h2:=(h (i+(d+1)+1) hi hi).2 (by omega);have e:i+(d+1)+1-1=i+d+1:=by omega
   simp only [e] at h2;omega
 have:=key (j-i-1) i (by omega);simpa [show i+(j-i-1)+1=j by omega] using this
theorem Io {ms:dF} (h:Mc ms ms.length) {i j:Nat} (hi:i<ms.length) (hj:j<ms.length) (e:ms[i].1=ms[j].1):i=j:=by
 by_cases h1:i<j
 ·have:=Kk h hj h1;omega
 by_cases h2:j<i
 ·have:=Kk h hi h2;omega
 omega
theorem Sp {c:Int} {ms:dF} (hr:qt c ms) {k:Nat} (hk:k<ms.length) (hm:(k+1) % ms.length<ms.length):il c ms ms[k].1=ms[(k+1) % ms.length].1:=by
 have hl:=hr.2.1.2;have h:=(ig c ms (by omega)).1;rw [(ig c ms (by omega)).2.2.2 hr] at h;obtain ⟨e,he,hq⟩:=dw (round:=cU) (x:=(ms[k].1,c,ms,((0:Nat):Int),())) ms.length (fun j x=>x=(ms[k].1,c,ms,((j:Nat):Int),())∧j≤k) (fun e=>e=.inr (ms[(k+1) % ms.length].1,())) (by
   rintro x ⟨_,g⟩
   omega) (by
   rintro j x hj ⟨rfl,g⟩
   simp only [cU,jx,ax hj,ak,cond_true,az,List.getElem?_eq_getElem hj,Option.bind_some,aE (show j<4611686018427387904 by omega),xZ,ai (show ¬((List.length ms:Nat):Int)=0 by omega),cond_false]
   by_cases e:ms[j].1=ms[k].1
   ·have:=Io hr.2.2 hj hk e;subst this;rw [af e,List.getElem?_eq_getElem hm];exact .inl ⟨_,rfl,rfl⟩
   ·rw [ai e];refine .inr ⟨_,rfl,rfl,?_⟩
    by_cases e2:j=k
    ·subst e2;exact absurd rfl e
    ·omega) ⟨rfl,Nat.zero_le _⟩
 have he:aG cU (ms[k].1,c,ms,(0:Int),())=some e:=he;subst hq;unfold il bX;rw [h];simp only [Option.bind_some,Bool.not_true,cond_false,he,bO]
structure FY (R:Nat) (S:Int) (ms:dF) (f:mh):Prop where
 tok:f.2.1=true→∃r:Nat,1≤r∧r≤R∧f.2.2.2.1=((r:Nat):Int)∧(∃x,ms[(r-1) % ms.length]?=some x∧f.1=x.1)∧(r=R→f.2.2.2.2.1=S)
 item:f.2.1=false→f.q.2.2.2.1≤S
structure yE (R:Nat) (S:Int) (len k:Nat) (m:eb):Prop where
 items:∀x∈m.2.2.2.1,x.1≤S
 last:∃q:Nat,m.q.2.1=((q:Nat):Int)∧q<R∧(∀r,1≤r→r<R→(r-1) % len=k→r≤q)∧(Blank (ie m)∨(1≤q∧(q-1) % len=k∧(ie m).2.1=((q+1:Nat):Int)∧(q+1=R→(ie m).2.2.1=S)))
structure wo (R:Nat) (S:Int) (ms:dF) (w:bt):Prop where
 Bn:∀f∈w.2.2.2.1,FY R S ms f
 px:∀k (hk:k<w.2.2.1.length),yE R S ms.length k w.2.2.1[k]
 said:∀x∈w.q.1,x.1≤S
theorem wo.Sq {R:Nat} {S:Int} {ms:dF} {w:bt} (h:wo R S ms w) {k:Nat} (hk:k<w.2.2.1.length) {m:eb} (hm:yE R S ms.length k m):wo R S ms (pt w k m):=
 {
  Bn:=h.Bn
  said:=h.said
  px:=fun j hj=>by
   have hj:j<(w.2.2.1.set k m).length:=hj;show yE R S ms.length j (w.2.2.1.set k m)[j];rw [List.getElem_set];rw [List.length_set] at hj
   split
   ·rename_i e;subst e;exact hm
   ·exact h.px j hj }
theorem wo.Bo {R:Nat} {S:Int} {ms:dF} {w:bt} (h:wo R S ms w) {l:List mh} (hl:∀f∈l,FY R S ms f):wo R S ms (iV w l):={ Bn:=hl,px:=h.px,said:=h.said }
theorem yE.same {R:Nat} {S:Int} {len k:Nat} {m m':eb} (h:yE R S len k m) (h1:m'.2.2.2.1=m.2.2.2.1) (h2:m'.q.2.1=m.q.2.1) (h3:ie m'=ie m):yE R S len k m':=⟨h1▸h.items,by rw [h2,h3];exact h.last⟩
theorem VQ {R:Nat} {S:Int} {ms:dF} {mt:List eb} {id:Int} {l:aS} (h:∀x∈l,x.1≤S):∀f∈de mt id l,FY R S ms f:=by
 intro f hf;obtain ⟨m,_,x,hx,_,rfl⟩:=xY hf;exact ⟨fun e=>(by cases e),fun _=>h x hx⟩
theorem Sr {n q k:Nat} (h1:1≤q) (h:(q-1) % n=k):(q+1-1) % n=(k+1) % n:=by
 have:q=(q-1)+1:=by omega
 rw [Nat.add_sub_cancel,←h,Nat.mod_add_mod,←this]
theorem afo {R:Nat} {S:Int} {c:Int} {ms:dF} (hr:qt c ms) {k:Nat} (hk:k<ms.length) {t:kY} {q:Nat} (h1:1≤q) (hq:(q-1) % ms.length=k) (hR:q+1≤R) (h2:t.2.1=((q+1:Nat):Int)) (h3:q+1=R→t.2.2.1=S):FY R S ms (ff (il c ms ms[k].1) t):=by
 have hm:(k+1) % ms.length<ms.length:=Nat.mod_lt _ (by omega);refine ⟨fun _=>⟨q+1,by omega,hR,h2,⟨ms[(k+1) % ms.length],?_,?_⟩,h3⟩,fun e=>(by cases e)⟩
 ·rw [Sr h1 hq];exact List.getElem?_eq_getElem hm
 ·exact Sp hr hk hm
theorem Pu {R:Nat} {S:Int} {n:Nat} {c:Int} {ms:dF} {w:bt} (h:fZ n c ms w) (hR:wo R S ms w) {k:Nat} (hk:k<w.2.2.1.length) (hb:¬Blank (ie w.2.2.1[k])):wo R S ms (tu w w.2.2.1[k]):=by
 have nk:k<ms.length:=by rw [←h.len];exact hk
 obtain ⟨q,q1,q2,q3,q4⟩:=(hR.px k hk).last;refine hR.Bo fun f hf => ?_
 rcases List.mem_append.1 hf with hf | hf
 ·rcases List.mem_append.1 hf with hf | hf
  ·exact hR.Bn f hf
  ·rw [List.mem_singleton] at hf;subst hf;rcases q4 with q4 | ⟨g1,g2,g3,g4⟩
   ·exact absurd q4 hb
   ·rw [h.self.1,h.self.2,h.ids k hk nk];exact afo h.ring nk g1 g2 (by omega) g3 g4
 ·exact VQ (fun x hx=>(hR.px k hk).items x (List.mem_filter.1 hx).1) f hf
theorem Pv {R:Nat} {S:Int} {len k:Nat} {m:eb} (h:yE R S len k m) {x:dn} (hx:x.1≤S):yE R S len k (ra m (m8 m.2.2.2.1 x)):=
 ⟨fun y hy=>by
  have hy:y∈m8 m.2.2.2.1 x:=hy;rcases xz hy with rfl | hy
  ·exact hx
  ·exact h.items y hy,h.last⟩
theorem Pw {R:Nat} {S:Int} {n:Nat} {c:Int} {ms:dF} {w:bt} (h:fZ n c ms w) (hR:wo R S ms w) {f:mh} (hf:FY R S ms f) (ht:f.2.1=true) {k:Nat} (hk:k<w.2.2.1.length) (yw:(w.2.2.1[k]).1=f.1) (hr:(w.2.2.1[k]).q.2.1<f.2.2.2.1):1≤R∧(R-1) % ms.length=k∧f.2.2.2.1=((R:Nat):Int)∧f.2.2.2.2.1=S:=by
 have nk:k<ms.length:=by rw [←h.len];exact hk
 obtain ⟨r,r1,r2,r3,⟨x,x1,x2⟩,r4⟩:=hf.tok ht;obtain ⟨q,q1,q2,q3,_⟩:=(hR.px k hk).last;have hm:(r-1) % ms.length<ms.length:=Nat.mod_lt _ (by omega);rw [List.getElem?_eq_getElem hm] at x1;injection x1 with x1;have hi:(r-1) % ms.length=k:=Io h.ring.2.2 hm nk (by rw [x1,←x2,←yw,h.ids k hk nk])
 by_cases e:r<R
 ·have:=q3 r r1 e hi;omega
 ·have:r=R:=by omega
  subst this;exact ⟨r1,hi,r3,r4 rfl⟩
def Ip (ms:dF) (w w':bt):Prop:=∀R S,wo R S ms w→∃R' S',wo R' S' ms w'
theorem FY.up {R:Nat} {S:Int} {ms:dF} {f:mh} (h:FY R S ms f) {j:Nat}:FY (R+1) (S+((j:Nat):Int)) ms f:=
 ⟨fun e=>by
  obtain ⟨r,r1,r2,r3,r4,_⟩:=h.tok e;exact ⟨r,r1,by omega,r3,r4,fun h=>by omega⟩,fun e=>by have:=h.item e;omega⟩
end Go.TM
