/- What a member does that holds a token. -/
import Derived.Test.YtiljcjnnhkidbaaGreatMPHoldL
set_option linter.unusedSimpArgs false
set_option linter.unusedVariables false
namespace Go.TM
open Go
theorem rb.id {m:jc} (h:rb m):1≤m.1∧m.1≤5:=by
 obtain ⟨k,hk,e⟩:=List.mem_iff_getElem.1 h.mem;have:=(h.ring.2.2 k hk hk).1;rw [e] at this;exact this
theorem QJ {list:aV} {xs:dC} {ms:List Int} {c c2:Int} (hx:zv c xs xs.length) (hc:c≤c2) (hm:∀s∈ms,1≤s∧s≤c2):zv c2 (bE (mH list xs ms)) (bE (mH list xs ms)).length:=by
 have hp:(mH list xs ms).Pairwise (· < ·):=List.Pairwise.sublist (List.take_sublist _ _) (List.Pairwise.filter _ (Gl 60));have Gu:∀s∈mH list xs ms,1≤s∧s≤c2:=by
  intro s hs;have h1:=List.mem_of_mem_take hs;have h2:=(List.mem_filter.1 h1).2;unfold jv at h2;rw [Bool.or_eq_true,Bool.and_eq_true,decide_eq_true_eq,decide_eq_true_eq] at h2;rcases h2 with ⟨_,h2⟩ | h2
  ·unfold cu at h2;obtain ⟨r,hr,rfl⟩:=List.mem_map.1 h2;obtain ⟨k,hk,rfl⟩:=List.mem_iff_getElem.1 hr;have:=hx k hk hk;exact ⟨this.1,by omega⟩
  ·exact hm s h2
 intro k hk _;have I4:k<(mH list xs ms).length:=by rwa [ea] at hk
 have e:∀j (hj:j<(bE (mH list xs ms)).length) (hj':j<(mH list xs ms).length),(bE (mH list xs ms))[j].1=(mH list xs ms)[j]:=by intro j hj hj';simp [bE]
 rw [e k hk I4];refine ⟨(Gu _ (List.getElem_mem I4)).1,(Gu _ (List.getElem_mem I4)).2,fun h0 => ?_⟩;rw [e (k-1) (by omega) (by omega)];exact List.pairwise_iff_getElem.1 hp (k-1) k (by omega) I4 (by omega)
theorem xW.drop {l:dC} (h:xW l l.length) (k:Nat):xW (l.drop k) (l.drop k).length:=by
 intro j hj _;rw [List.getElem_drop];rw [List.length_drop] at hj;exact h (k+j) (by omega) (by omega)
theorem kM.drop {l:List (ByteArray×Unit)} (h:kM l l.length) (k:Nat):kM (l.drop k) (l.drop k).length:=by
 intro j hj _;rw [List.getElem_drop];rw [List.length_drop] at hj;exact h (k+j) (by omega) (by omega)
structure alf (m:jc) (t:lT) (n:jc) (said:aV) (k:Nat) (nx:lT):Prop where
 GR:k≤3∧k≤m.2.2.2.2.2.1.length∧t.2.2.1+((k:Nat):Int)≤60
 said:said=wW t m.2.2.2.1++iI t.2.2.1 m.1 m.2.2.2.2.1 m.2.2.2.2.2.1 k
 id:n.1=m.1∧n.2.1=m.2.1∧n.2.2.1=m.2.2.1
 items:n.2.2.2.1=cT m.2.2.2.1 (iI t.2.2.1 m.1 m.2.2.2.2.1 m.2.2.2.2.2.1 k)
 words:n.2.2.2.2.1=m.2.2.2.2.1.drop k∧n.2.2.2.2.2.1=m.2.2.2.2.2.1.drop k
 round:n.2.2.2.2.2.2.1=t.2.1∧n.2.2.2.2.2.2.2.1=t.2.2.2.1∧m.2.2.2.2.2.2.2.2.1≤n.2.2.2.2.2.2.2.2.1∧n.2.2.2.2.2.2.2.2.2.1=m.2.2.2.2.2.2.2.2.2.1
 last:(n.2.2.2.2.2.2.2.2.2.2.1,n.2.2.2.2.2.2.2.2.2.2.2.1,n.2.2.2.2.2.2.2.2.2.2.2.2.1,n.2.2.2.2.2.2.2.2.2.2.2.2.2.1,n.2.2.2.2.2.2.2.2.2.2.2.2.2.2.1,n.2.2.2.2.2.2.2.2.2.2.2.2.2.2.2.1,())=nx
 nq:rb n
 tq:Mq nx
 next:nx.1=t.1∧nx.2.1=t.2.1+1∧nx.2.2.1=t.2.2.1+((k:Nat):Int)
 xY:k=min 3 m.2.2.2.2.2.1.length∨t.2.2.1+((k:Nat):Int)=60
 marks:nx.2.2.2.1=Gj (t.2.2.1+((k:Nat):Int)) (if t.2.2.2.1=t.2.2.1∧t.2.2.2.2.1=0 then t.2.2.1+((k:Nat):Int) else t.2.2.2.1) t.2.2.2.2.1 m.1 ((dH n.2.2.2.1:Nat):Int)∧nx.2.2.2.2.1=Gk (t.2.2.1+((k:Nat):Int)) (if t.2.2.2.1=t.2.2.1∧t.2.2.2.2.1=0 then t.2.2.1+((k:Nat):Int) else t.2.2.2.1) t.2.2.2.2.1 m.1 ((dH n.2.2.2.1:Nat):Int)
 line:n.2.2.2.2.2.2.2.2.1=m.2.2.2.2.2.2.2.2.1∨(n.2.2.2.2.2.2.2.2.1≤m.2.2.2.2.2.2.2.1∧n.2.2.2.2.2.2.2.2.1≤t.2.2.2.1∧n.2.2.2.2.2.2.2.2.1≤((dH n.2.2.2.1:Nat):Int))
 OE:∀s∈cu nx.2.2.2.2.2.1,hasB n.2.2.2.1 s=false
 reach:∀x:Int,x≤m.2.2.2.2.2.2.2.1→x≤t.2.2.2.1→x≤((dH n.2.2.2.1:Nat):Int)→x≤n.2.2.2.2.2.2.2.2.1
theorem ZJ (m:jc) (t:lT) (hm:rb m) (ht:Mq t) (hc:t.1=m.2.1) (hr1:m.2.2.2.2.2.2.1<t.2.1) (hr2:t.2.1<1000000000) :
  ∃(n:jc) (said:aV) (k:Nat) (nx:lT),alf m t n said k nx∧lK m.1 m.2.1 m.2.2.1 m.2.2.2.1 m.2.2.2.2.1 m.2.2.2.2.2.1 m.2.2.2.2.2.2.1 m.2.2.2.2.2.2.2.1 m.2.2.2.2.2.2.2.2.1 m.2.2.2.2.2.2.2.2.2.1 m.2.2.2.2.2.2.2.2.2.2.1 m.2.2.2.2.2.2.2.2.2.2.2.1 m.2.2.2.2.2.2.2.2.2.2.2.2.1 m.2.2.2.2.2.2.2.2.2.2.2.2.2.1 m.2.2.2.2.2.2.2.2.2.2.2.2.2.2.1 m.2.2.2.2.2.2.2.2.2.2.2.2.2.2.2.1 t.1 t.2.1 t.2.2.1 t.2.2.2.1 t.2.2.2.2.1 t.2.2.2.2.2.1=some (n.1,n.2.1,n.2.2.1,n.2.2.2.1,n.2.2.2.2.1,n.2.2.2.2.2.1,n.2.2.2.2.2.2.1,n.2.2.2.2.2.2.2.1,n.2.2.2.2.2.2.2.2.1,n.2.2.2.2.2.2.2.2.2.1,n.2.2.2.2.2.2.2.2.2.2.1,n.2.2.2.2.2.2.2.2.2.2.2.1,n.2.2.2.2.2.2.2.2.2.2.2.2.1,n.2.2.2.2.2.2.2.2.2.2.2.2.2.1,n.2.2.2.2.2.2.2.2.2.2.2.2.2.2.1,n.2.2.2.2.2.2.2.2.2.2.2.2.2.2.2.1,said,((k:Nat):Int),nx.1,nx.2.1,nx.2.2.1,nx.2.2.2.1,nx.2.2.2.2.1,nx.2.2.2.2.2.1,true,())∧lC m.1 m.2.1 m.2.2.1 m.2.2.2.1 m.2.2.2.2.1 m.2.2.2.2.2.1 m.2.2.2.2.2.2.1 m.2.2.2.2.2.2.2.1 m.2.2.2.2.2.2.2.2.1 m.2.2.2.2.2.2.2.2.2.1 m.2.2.2.2.2.2.2.2.2.2.1 m.2.2.2.2.2.2.2.2.2.2.2.1 m.2.2.2.2.2.2.2.2.2.2.2.2.1 m.2.2.2.2.2.2.2.2.2.2.2.2.2.1 m.2.2.2.2.2.2.2.2.2.2.2.2.2.2.1 m.2.2.2.2.2.2.2.2.2.2.2.2.2.2.2.1 t.1 t.2.1 t.2.2.1 t.2.2.2.1 t.2.2.2.2.1 t.2.2.2.2.2.1=some (n.1,n.2.1,n.2.2.1,n.2.2.2.1,n.2.2.2.2.1,n.2.2.2.2.2.1,n.2.2.2.2.2.2.1,n.2.2.2.2.2.2.2.1,n.2.2.2.2.2.2.2.2.1,n.2.2.2.2.2.2.2.2.2.1,n.2.2.2.2.2.2.2.2.2.2.1,n.2.2.2.2.2.2.2.2.2.2.2.1,n.2.2.2.2.2.2.2.2.2.2.2.2.1,n.2.2.2.2.2.2.2.2.2.2.2.2.2.1,n.2.2.2.2.2.2.2.2.2.2.2.2.2.2.1,n.2.2.2.2.2.2.2.2.2.2.2.2.2.2.2.1,said,nx.1,nx.2.1,nx.2.2.1,nx.2.2.2.1,nx.2.2.2.2.1,nx.2.2.2.2.2.1,true,()):=by
 have wo:=hm.id;have hW:=hm.small;have hw:=hW;unfold mq at hw;have hwl:t.2.2.2.2.2.1.length≤20:=ht.2.2.2.2.2.1;obtain ⟨k,t3,hN,q1,q2,q3,q4,q5,q6⟩:=QE t.1 t.2.1 t.2.2.1 t.2.2.2.1 t.2.2.2.2.1 t.2.2.2.2.2.1 m.1 m.2.2.2.2.1 m.2.2.2.2.2.1 (by omega) (by omega) wo ht;obtain ⟨o0,o1,o2,o3,o4,o5,o6,s1,s2,_⟩:=Mt t.1 t.2.1 t.2.2.1 t.2.2.2.1 t.2.2.2.2.1 t.2.2.2.2.2.1 m.1 m.2.2.2.2.1 m.2.2.2.2.2.1 (by omega);rw [hN] at s2;injection s2 with s2;simp only [Prod.mk.injEq] at s2;obtain ⟨rfl,rfl,rfl,rfl,rfl,rfl,rfl,_⟩:=s2;have hF:∀f∈iI t.2.2.1 m.1 m.2.2.2.2.1 m.2.2.2.2.2.1 k,pT f:=Gn ⟨ht.2.2.1.1,q3⟩ wo q2 hm.short;have hFl:=zI t.2.2.1 m.1 m.2.2.2.2.1 m.2.2.2.2.2.1 k;generalize hFF:iI t.2.2.1 m.1 m.2.2.2.2.1 m.2.2.2.2.2.1 k=F at *;subst hFl;have hi:=uK F hm.items hF;have his:=dD _ hi;have awu:=dD _ hm.items;obtain ⟨a1,a2,_⟩:=zA (cT m.2.2.2.1 F) (by omega);have atJ:dH m.2.2.2.1≤dH (cT m.2.2.2.1 F):=OD (by omega) (by omega) fun r hr=>⟨r,Gm F hr,rfl⟩
 obtain ⟨z0,z1,z2,z3,z4,z5,z6⟩:=ht;have hw2:zv (t.2.2.1+((List.length F:Nat):Int)) t.2.2.2.2.2.1 t.2.2.2.2.2.1.length:=fun j hj VY=>by
  have:=z6 j hj VY;exact ⟨this.1,by omega,this.2.2⟩
 have ht3:0≤t3∧t3≤t.2.2.1+((List.length F:Nat):Int):=by
  have z3a:=z3.1;have z3b:=z3.2;have z2a:=z2.1;rcases q4 with e | e<;>rw [e]<;>omega
 have htq:Mq (t.1,t.2.1,t.2.2.1+((List.length F:Nat):Int),t3,t.2.2.2.2.1,t.2.2.2.2.2.1,()):=⟨z0,z1,⟨by show 0≤t.2.2.1+_;omega,q3⟩,ht3,z4,z5,hw2⟩;obtain ⟨u1,_,u3⟩:=Fq (t.1,t.2.1,t.2.2.1+((List.length F:Nat):Int),t3,t.2.2.2.2.1,t.2.2.2.2.2.1,()) (by show t.2.2.2.2.2.1.length≤_;omega);rw [u3.2 htq] at u1;obtain ⟨t3',ZK,m1,m2,_,m4,m5⟩:=XP t.1 t.2.1 (t.2.2.1+((List.length F:Nat):Int)) t3 t.2.2.2.2.1 t.2.2.2.2.2.1 m.1 ((dH (cT m.2.2.2.1 F):Nat):Int) (by omega) u1;have m4:=m4 rfl wo.1 wo.2 (by omega) htq.2.2.2.1.1 htq.2.2.2.1.2;have m5:=m5 rfl wo.1 wo.2 (by omega);obtain ⟨ms,l1,l2,l3,l4⟩:=OA (cT m.2.2.2.1 F) (t.2.2.1+((List.length F:Nat):Int)) (by omega);have ls:=QG t.1 t.2.1 (t.2.2.1+((List.length F:Nat):Int)) t3' ZK t.2.2.2.2.2.1 (cT m.2.2.2.1 F) ms (by omega) (by omega) l1 l3;have li:=QH t.1 t.2.1 (t.2.2.1+((List.length F:Nat):Int)) t3' ZK t.2.2.2.2.2.1 (cT m.2.2.2.1 F) ms (by omega) (by omega) l2 l3 (fun s hs=>⟨(l4 s hs).1,(l4 s hs).2.1.1,(l4 s hs).2.2⟩);have hlw:zv (t.2.2.1+((List.length F:Nat):Int)) (bE (mH (cT m.2.2.2.1 F) t.2.2.2.2.2.1 ms)) (bE (mH (cT m.2.2.2.1 F) t.2.2.2.2.2.1 ms)).length:=QJ z6 (by omega) fun s hs=>⟨(l4 s hs).1,(l4 s hs).2.1.2⟩
 have Uj:(bE (mH (cT m.2.2.2.1 F) t.2.2.2.2.2.1 ms)).length≤20:=by
  rw [ea];unfold mH;rw [List.length_take];omega
 have hlk:∀s∈cu (bE (mH (cT m.2.2.2.1 F) t.2.2.2.2.2.1 ms)),hasB (cT m.2.2.2.1 F) s=false:=by
  rw [sv];intro s hs;have h2:=(List.mem_filter.1 (List.mem_of_mem_take hs)).2;unfold jv at h2;rw [Bool.or_eq_true,Bool.and_eq_true,decide_eq_true_eq,decide_eq_true_eq] at h2;rcases h2 with ⟨h2,_⟩ | h2
  ·simpa using h2
  ·exact (l4 s h2).2.2
 generalize bE (mH (cT m.2.2.2.1 F) t.2.2.2.2.2.1 ms)=W at *;have ZL:IntKind.i64.wrap (t.2.1+(1:Int))=t.2.1+1:=cD (by omega) (by omega);obtain ⟨c1,c2⟩:=mo t.1 (t.2.1+1) (t.2.2.1+((List.length F:Nat):Int)) t3' ZK W (by omega);have Qk:mq m≤1048576:=by omega
 obtain ⟨kb1,kb2,kb3⟩:=tL m Qk;rw [kb3.2 hm] at kb1 kb2;obtain ⟨kt1,kt2,kt3⟩:=Fq t (by omega);rw [kt3.2 ⟨z0,z1,z2,z3,z4,z5,z6⟩] at kt1 kt2;obtain ⟨p1,p2⟩:=nS m.1 m.2.1 m.2.2.1 m.2.2.2.1 m.2.2.2.2.1 m.2.2.2.2.2.1 m.2.2.2.2.2.2.1 m.2.2.2.2.2.2.2.1 m.2.2.2.2.2.2.2.2.1 m.2.2.2.2.2.2.2.2.2.1 m.2.2.2.2.2.2.2.2.2.2.1 m.2.2.2.2.2.2.2.2.2.2.2.1 m.2.2.2.2.2.2.2.2.2.2.2.2.1 m.2.2.2.2.2.2.2.2.2.2.2.2.2.1 m.2.2.2.2.2.2.2.2.2.2.2.2.2.2.1 m.2.2.2.2.2.2.2.2.2.2.2.2.2.2.2.1 Qk;obtain ⟨g1,g2⟩:=XS t m.2.2.2.1 (by omega) (by omega);have hgl:=XU t m.2.2.2.1;have htx:=hm.texts;generalize hLN:(if (if ((dH (cT m.2.2.2.1 F):Nat):Int)<(if t.2.2.2.1<m.2.2.2.2.2.2.2.1 then t.2.2.2.1 else m.2.2.2.2.2.2.2.1) then ((dH (cT m.2.2.2.1 F):Nat):Int) else (if t.2.2.2.1<m.2.2.2.2.2.2.2.1 then t.2.2.2.1 else m.2.2.2.2.2.2.2.1))>m.2.2.2.2.2.2.2.2.1 then (if ((dH (cT m.2.2.2.1 F):Nat):Int)<(if t.2.2.2.1<m.2.2.2.2.2.2.2.1 then t.2.2.2.1 else m.2.2.2.2.2.2.2.1) then ((dH (cT m.2.2.2.1 F):Nat):Int) else (if t.2.2.2.1<m.2.2.2.2.2.2.2.1 then t.2.2.2.1 else m.2.2.2.2.2.2.2.1)) else m.2.2.2.2.2.2.2.2.1)=line;have hle:m.2.2.2.2.2.2.2.2.1≤line:=by
  rw [←hLN]
  split<;>omega
 have hnx:Mq (t.1,t.2.1+1,t.2.2.1+((List.length F:Nat):Int),t3',ZK,W,()):=⟨z0,⟨by show 1≤t.2.1+1;omega,by show t.2.1+1≤1000000000;omega⟩,⟨by show 0≤t.2.2.1+_;have:=z2.1;omega,q3⟩,⟨m4.1,m4.2.1⟩,by
  have z4a:=z4.1;have z4b:=z4.2;show 0≤ZK∧ZK≤5;rcases m4.2.2.2.2 with e | e | ⟨e,_⟩<;>rw [e]<;>omega,Uj,hlw⟩
 refine ⟨(m.1,m.2.1,m.2.2.1,cT m.2.2.2.1 F,m.2.2.2.2.1.drop F.length,m.2.2.2.2.2.1.drop F.length,t.2.1,t.2.2.2.1,line,m.2.2.2.2.2.2.2.2.2.1,t.1,t.2.1+1,t.2.2.1+((List.length F:Nat):Int),t3',ZK,W,()),wW t m.2.2.2.1++F,F.length,(t.1,t.2.1+1,t.2.2.1+((List.length F:Nat):Int),t3',ZK,W,()),?_,?_,?_⟩
 ·have hn:rb (m.1,m.2.1,m.2.2.1,cT m.2.2.2.1 F,m.2.2.2.2.1.drop F.length,m.2.2.2.2.2.1.drop F.length,t.2.1,t.2.2.2.1,line,m.2.2.2.2.2.2.2.2.2.1,t.1,t.2.1+1,t.2.2.1+((List.length F:Nat):Int),t3',ZK,W,()):={
   ring:=hm.ring
   mem:=hm.mem
   items:=hi
   texts:=⟨by show (m.2.2.2.2.2.1.drop F.length).length≤20;rw [List.length_drop];omega,by show (m.2.2.2.2.1.drop F.length).length=(m.2.2.2.2.2.1.drop F.length).length;rw [List.length_drop,List.length_drop];omega⟩
   Yq:=hm.Yq.drop _
   short:=hm.short.drop _
   round:=⟨by show 0≤t.2.1;omega,by show t.2.1≤1000000000;omega⟩
   seen:=⟨z3.1,by show t.2.2.2.1≤60;have:=z3.2;omega⟩
   line:=by
    have hl:=hm.line;have hs:=hm.seen;have ha:=z3.1;show 0≤line∧line≤((dH (cT m.2.2.2.1 F):Nat):Int);rw [←hLN]
    split<;>split<;>(try split)<;>omega
   heard:=by
    have hl:=hm.heard;show 0≤m.2.2.2.2.2.2.2.2.2.1∧m.2.2.2.2.2.2.2.2.2.1≤((dH (cT m.2.2.2.1 F):Nat):Int);omega
   last:=.inr hnx }
  have XW:F.length=min 3 m.2.2.2.2.2.1.length∨t.2.2.1+((F.length:Nat):Int)=60:=by
   rcases q5 with h | h | ⟨h,h'⟩
   ·exact .inl h
   ·exact .inr (by omega)
   ·have:=hm.short _ h h;omega
  have alg:line=m.2.2.2.2.2.2.2.2.1∨(line≤m.2.2.2.2.2.2.2.1∧line≤t.2.2.2.1∧line≤((dH (cT m.2.2.2.1 F):Nat):Int)):=by
   rw [←hLN]
   split<;>split<;>(try split)<;>omega
  have ags:∀x:Int,x≤m.2.2.2.2.2.2.2.1→x≤t.2.2.2.1→x≤((dH (cT m.2.2.2.1 F):Nat):Int)→x≤line:=by
   rw [←hLN];intro x x1 x2 x3
   split<;>split<;>(try split)<;>omega
  exact { GR:=⟨q1,q2,q3⟩,said:=by rw [hFF],id:=⟨rfl,rfl,rfl⟩,items:=by rw [hFF],words:=⟨rfl,rfl⟩,round:=⟨rfl,rfl,hle,rfl⟩,last:=rfl,nq:=hn,tq:=hnx,next:=⟨rfl,rfl,rfl⟩,xY:=XW,marks:=⟨m5.1.trans (by rw [q6]),m5.2.trans (by rw [q6])⟩,line:=alg,OE:=hlk,reach:=ags }
 ·unfold lK;delta aw aP aA bA eE
  try simp only [di]
  simp only [ak hc,aq (show ¬t.2.1≤m.2.2.2.2.2.2.1 by omega),aq (show ¬(1000000000:Int)≤t.2.1 by omega),kb2,kt2,p2,g2,hN,Option.bind_some,Bool.not_true,cond_false,cond_true,ax,aF,ak (show ((List.length F:Nat):Int)≤((List.length m.2.2.2.2.1:Nat):Int) by omega),ak (show ((List.length F:Nat):Int)≤((List.length m.2.2.2.2.2.1:Nat):Int) by omega)];rw [IN (hx:=hm.items) (hf:=hF) (hn:=by omega) ..];simp only [kD,a2,m2,li,ZL,c2,Option.bind_some,hLN];rw [aT (show ((wW t m.2.2.2.1).length+F.length)*40≤lim by unfold lim;omega)];rfl
 ·subst hLN;unfold lC;delta aw aP cV aA bA eE
  try simp only [di]
  simp only [ak hc,aq (show ¬t.2.1≤m.2.2.2.2.2.2.1 by omega),aq (show ¬(1000000000:Int)≤t.2.1 by omega),kb1,kt1,p1,g1,s1,Option.bind_some,Bool.not_true,cond_false,cond_true,ax,aF,ak (show ((List.length F:Nat):Int)≤((List.length m.2.2.2.2.1:Nat):Int) by omega),ak (show ((List.length F:Nat):Int)≤((List.length m.2.2.2.2.2.1:Nat):Int) by omega),
   aT (show (0+(wW t m.2.2.2.1).length)*40≤lim by unfold lim;omega),aT (show (0+(List.drop F.length m.2.2.2.2.1).length)*8≤lim by rw [List.length_drop];unfold lim;omega),aT (show (0+(List.drop F.length m.2.2.2.2.2.1).length)*16≤lim by rw [List.length_drop];unfold lim;omega),List.nil_append]
  rw [IP (hx:=hm.items) (hf:=hF) (hn:=by omega) ..];simp only [kD,a1,m1,Option.bind_some,aT (show ((wW t m.2.2.2.1).length+F.length)*40≤lim by unfold lim;omega),cond_true]
  by_cases h1:t.2.2.2.1<m.2.2.2.2.2.2.2.1
  ·rw [ak h1,if_pos h1];simp only [cond_true]
   by_cases h2:((dH (cT m.2.2.2.1 F):Nat):Int)<t.2.2.2.1
   ·rw [ak h2,if_pos h2];simp only [cond_true]
    by_cases h3:m.2.2.2.2.2.2.2.2.1<((dH (cT m.2.2.2.1 F):Nat):Int)
    ·rw [ak h3,if_pos (show ((dH (cT m.2.2.2.1 F):Nat):Int)>m.2.2.2.2.2.2.2.2.1 from h3)];simp only [cond_true,ls,ZL,c1,Option.bind_some]
    ·rw [aq h3,if_neg (show ¬((dH (cT m.2.2.2.1 F):Nat):Int)>m.2.2.2.2.2.2.2.2.1 from h3)];simp only [cond_false,ls,ZL,c1,Option.bind_some]
   ·rw [aq h2,if_neg h2];simp only [cond_false]
    by_cases h3:m.2.2.2.2.2.2.2.2.1<t.2.2.2.1
    ·rw [ak h3,if_pos (show t.2.2.2.1>m.2.2.2.2.2.2.2.2.1 from h3)];simp only [cond_true,ls,ZL,c1,Option.bind_some]
    ·rw [aq h3,if_neg (show ¬t.2.2.2.1>m.2.2.2.2.2.2.2.2.1 from h3)];simp only [cond_false,ls,ZL,c1,Option.bind_some]
  ·rw [aq h1,if_neg h1];simp only [cond_false]
   by_cases h2:((dH (cT m.2.2.2.1 F):Nat):Int)<m.2.2.2.2.2.2.2.1
   ·rw [ak h2,if_pos h2];simp only [cond_true]
    by_cases h3:m.2.2.2.2.2.2.2.2.1<((dH (cT m.2.2.2.1 F):Nat):Int)
    ·rw [ak h3,if_pos (show ((dH (cT m.2.2.2.1 F):Nat):Int)>m.2.2.2.2.2.2.2.2.1 from h3)];simp only [cond_true,ls,ZL,c1,Option.bind_some]
    ·rw [aq h3,if_neg (show ¬((dH (cT m.2.2.2.1 F):Nat):Int)>m.2.2.2.2.2.2.2.2.1 from h3)];simp only [cond_false,ls,ZL,c1,Option.bind_some]
   ·rw [aq h2,if_neg h2];simp only [cond_false]
    by_cases h3:m.2.2.2.2.2.2.2.2.1<m.2.2.2.2.2.2.2.1
    ·rw [ak h3,if_pos (show m.2.2.2.2.2.2.2.1>m.2.2.2.2.2.2.2.2.1 from h3)];simp only [cond_true,ls,ZL,c1,Option.bind_some]
    ·rw [aq h3,if_neg (show ¬m.2.2.2.2.2.2.2.1>m.2.2.2.2.2.2.2.2.1 from h3)];simp only [cond_false,ls,ZL,c1,Option.bind_some]
noncomputable def OF (m:jc) (t:lT):Bool:=uH m&&(Jy t&&(decide (t.1=m.2.1)&&(decide (m.2.2.2.2.2.2.1<t.2.1)&&decide (t.2.1<1000000000))))
theorem ZM (m:jc) (t:lT) (h:mq m≤1048576) (hw:t.2.2.2.2.2.1.length≤1048576) (hn:OF m t=false):lK m.1 m.2.1 m.2.2.1 m.2.2.2.1 m.2.2.2.2.1 m.2.2.2.2.2.1 m.2.2.2.2.2.2.1 m.2.2.2.2.2.2.2.1 m.2.2.2.2.2.2.2.2.1 m.2.2.2.2.2.2.2.2.2.1 m.2.2.2.2.2.2.2.2.2.2.1 m.2.2.2.2.2.2.2.2.2.2.2.1 m.2.2.2.2.2.2.2.2.2.2.2.2.1 m.2.2.2.2.2.2.2.2.2.2.2.2.2.1 m.2.2.2.2.2.2.2.2.2.2.2.2.2.2.1 m.2.2.2.2.2.2.2.2.2.2.2.2.2.2.2.1 t.1 t.2.1 t.2.2.1 t.2.2.2.1 t.2.2.2.2.1 t.2.2.2.2.2.1=some ((0:Int),(0:Int),[],[],[],[],(0:Int),(0:Int),(0:Int),(0:Int),(0:Int),(0:Int),(0:Int),(0:Int),(0:Int),[],[],(0:Int),(0:Int),(0:Int),(0:Int),(0:Int),(0:Int),[],false,())∧
  lC m.1 m.2.1 m.2.2.1 m.2.2.2.1 m.2.2.2.2.1 m.2.2.2.2.2.1 m.2.2.2.2.2.2.1 m.2.2.2.2.2.2.2.1 m.2.2.2.2.2.2.2.2.1 m.2.2.2.2.2.2.2.2.2.1 m.2.2.2.2.2.2.2.2.2.2.1 m.2.2.2.2.2.2.2.2.2.2.2.1 m.2.2.2.2.2.2.2.2.2.2.2.2.1 m.2.2.2.2.2.2.2.2.2.2.2.2.2.1 m.2.2.2.2.2.2.2.2.2.2.2.2.2.2.1 m.2.2.2.2.2.2.2.2.2.2.2.2.2.2.2.1 t.1 t.2.1 t.2.2.1 t.2.2.2.1 t.2.2.2.2.1 t.2.2.2.2.2.1=some (m.1,m.2.1,m.2.2.1,m.2.2.2.1,m.2.2.2.2.1,m.2.2.2.2.2.1,m.2.2.2.2.2.2.1,m.2.2.2.2.2.2.2.1,m.2.2.2.2.2.2.2.2.1,m.2.2.2.2.2.2.2.2.2.1,m.2.2.2.2.2.2.2.2.2.2.1,m.2.2.2.2.2.2.2.2.2.2.2.1,m.2.2.2.2.2.2.2.2.2.2.2.2.1,m.2.2.2.2.2.2.2.2.2.2.2.2.2.1,m.2.2.2.2.2.2.2.2.2.2.2.2.2.2.1,m.2.2.2.2.2.2.2.2.2.2.2.2.2.2.2.1,[],(0:Int),(0:Int),(0:Int),(0:Int),(0:Int),[],false,()):=by
 obtain ⟨k1,k2,_⟩:=tL m h;obtain ⟨t1,t2,_⟩:=Fq t hw;obtain ⟨p1,_⟩:=nS m.1 m.2.1 m.2.2.1 m.2.2.2.1 m.2.2.2.2.1 m.2.2.2.2.2.1 m.2.2.2.2.2.2.1 m.2.2.2.2.2.2.2.1 m.2.2.2.2.2.2.2.2.1 m.2.2.2.2.2.2.2.2.2.1 m.2.2.2.2.2.2.2.2.2.2.1 m.2.2.2.2.2.2.2.2.2.2.2.1 m.2.2.2.2.2.2.2.2.2.2.2.2.1 m.2.2.2.2.2.2.2.2.2.2.2.2.2.1 m.2.2.2.2.2.2.2.2.2.2.2.2.2.2.1 m.2.2.2.2.2.2.2.2.2.2.2.2.2.2.2.1 h;unfold OF at hn
 constructor
 ·unfold lK;delta aw aP aA bA eE
  try simp only [di]
  by_cases a1:t.1=m.2.1
  case neg=>rw [aq a1];rfl
  by_cases a2:m.2.2.2.2.2.2.1<t.2.1
  case neg=>rw [ak a1,ak (show t.2.1≤m.2.2.2.2.2.2.1 by omega)];rfl
  by_cases a3:t.2.1<1000000000
  case neg=>rw [ak a1,aq (show ¬t.2.1≤m.2.2.2.2.2.2.1 by omega),ak (show (1000000000:Int)≤t.2.1 by omega)];rfl
  rw [ak a1,ak a2,ak a3] at hn;rw [ak a1,aq (show ¬t.2.1≤m.2.2.2.2.2.2.1 by omega),aq (show ¬(1000000000:Int)≤t.2.1 by omega)];simp only [Bool.not_true,cond_false,k2,Option.bind_some]
  cases hb:uH m
  ·rfl
  ·rw [hb] at hn
   cases hc:Jy t
   ·simp only [t2,hc,Bool.not_true,cond_false,Option.bind_some];rfl
   ·rw [hc] at hn;cases hn
 ·unfold lC;delta aw aP cV aA bA eE
  try simp only [di]
  simp only [p1,k1,Option.bind_some]
  cases hb:uH m
  ·rfl
  simp only [Bool.not_true,cond_false,t1,Option.bind_some]
  cases hc:Jy t
  ·rfl
  by_cases a1:t.1=m.2.1
  case neg=>rw [aq a1];rfl
  by_cases a2:m.2.2.2.2.2.2.1<t.2.1
  case neg=>rw [ak a1,ak (show t.2.1≤m.2.2.2.2.2.2.1 by omega)];rfl
  by_cases a3:t.2.1<1000000000
  case neg=>rw [ak a1,aq (show ¬t.2.1≤m.2.2.2.2.2.2.1 by omega),ak (show (1000000000:Int)≤t.2.1 by omega)];rfl
  rw [ak a1,ak a2,ak a3,hb,hc] at hn
  cases hn
end Go.TM
set_option linter.unusedSimpArgs false
set_option linter.unusedVariables false
namespace Go.TM
open Go
theorem ZN {m:jc} (hm:rb m) {level:Int} {text:ByteArray} (hl:1≤level∧level≤2) (ht:ByteArray.size text≤60) (hn:m.2.2.2.2.2.1.length<20):rb (XH m level text):={
 ring:=hm.ring
 mem:=hm.mem
 items:=hm.items
 texts:=⟨by show (m.2.2.2.2.2.1++[(text,())]).length≤20;simp;omega,by show (m.2.2.2.2.1++[(level,())]).length=(m.2.2.2.2.2.1++[(text,())]).length;have:=hm.texts.2;simp;omega⟩
 Yq:=fun j hj _=>by
  have hj:j<(m.2.2.2.2.1++[(level,())]).length:=hj;show (decide (1≤(m.2.2.2.2.1++[(level,())])[j].1)&&decide ((m.2.2.2.2.1++[(level,())])[j].1≤2))=true
  by_cases h:j<m.2.2.2.2.1.length
  ·rw [List.getElem_append_left h];exact hm.Yq j h h
  ·have:j=m.2.2.2.2.1.length:=by simp at hj;omega
   subst this;simp [hl.1,hl.2]
 short:=fun j hj _=>by
  have hj:j<(m.2.2.2.2.2.1++[(text,())]).length:=hj;show ByteArray.size (m.2.2.2.2.2.1++[(text,())])[j].1≤60
  by_cases h:j<m.2.2.2.2.2.1.length
  ·rw [List.getElem_append_left h];exact hm.short j h h
  ·have:j=m.2.2.2.2.2.1.length:=by simp at hj;omega
   subst this;simpa using ht
 round:=hm.round
 seen:=hm.seen
 line:=hm.line
 heard:=hm.heard
 last:=hm.last }
def Fy (m:jc) (v:Int):jc:=(m.1,m.2.1,m.2.2.1,m.2.2.2.1,m.2.2.2.2.1,m.2.2.2.2.2.1,m.2.2.2.2.2.2.1,m.2.2.2.2.2.2.2.1,m.2.2.2.2.2.2.2.2.1,v,m.2.2.2.2.2.2.2.2.2.2)
theorem ZO {m:jc} (hm:rb m):∃(k:Nat) (n:jc),n=Fy m (m.2.2.2.2.2.2.2.2.2.1+((k:Nat):Int))∧pR m.1 m.2.1 m.2.2.1 m.2.2.2.1 m.2.2.2.2.1 m.2.2.2.2.2.1 m.2.2.2.2.2.2.1 m.2.2.2.2.2.2.2.1 m.2.2.2.2.2.2.2.2.1 m.2.2.2.2.2.2.2.2.2.1 m.2.2.2.2.2.2.2.2.2.2.1 m.2.2.2.2.2.2.2.2.2.2.2.1 m.2.2.2.2.2.2.2.2.2.2.2.2.1 m.2.2.2.2.2.2.2.2.2.2.2.2.2.1 m.2.2.2.2.2.2.2.2.2.2.2.2.2.2.1 m.2.2.2.2.2.2.2.2.2.2.2.2.2.2.2.1=some (n.1,n.2.1,n.2.2.1,n.2.2.2.1,n.2.2.2.2.1,n.2.2.2.2.2.1,n.2.2.2.2.2.2.1,n.2.2.2.2.2.2.2.1,n.2.2.2.2.2.2.2.2.1,n.2.2.2.2.2.2.2.2.2.1,n.2.2.2.2.2.2.2.2.2.2.1,n.2.2.2.2.2.2.2.2.2.2.2.1,n.2.2.2.2.2.2.2.2.2.2.2.2.1,n.2.2.2.2.2.2.2.2.2.2.2.2.2.1,n.2.2.2.2.2.2.2.2.2.2.2.2.2.2.1,n.2.2.2.2.2.2.2.2.2.2.2.2.2.2.2.1,jn m.2.2.2.1 m.2.2.2.2.2.2.2.2.2.1 k,())∧oa m.1 m.2.1 m.2.2.1 m.2.2.2.1 m.2.2.2.2.1 m.2.2.2.2.2.1 m.2.2.2.2.2.2.1 m.2.2.2.2.2.2.2.1 m.2.2.2.2.2.2.2.2.1 m.2.2.2.2.2.2.2.2.2.1 m.2.2.2.2.2.2.2.2.2.2.1 m.2.2.2.2.2.2.2.2.2.2.2.1 m.2.2.2.2.2.2.2.2.2.2.2.2.1 m.2.2.2.2.2.2.2.2.2.2.2.2.2.1 m.2.2.2.2.2.2.2.2.2.2.2.2.2.2.1 m.2.2.2.2.2.2.2.2.2.2.2.2.2.2.2.1=some (n.1,n.2.1,n.2.2.1,n.2.2.2.1,n.2.2.2.2.1,n.2.2.2.2.2.1,n.2.2.2.2.2.2.1,n.2.2.2.2.2.2.2.1,n.2.2.2.2.2.2.2.2.1,n.2.2.2.2.2.2.2.2.2.1,n.2.2.2.2.2.2.2.2.2.2.1,n.2.2.2.2.2.2.2.2.2.2.2.1,n.2.2.2.2.2.2.2.2.2.2.2.2.1,n.2.2.2.2.2.2.2.2.2.2.2.2.2.1,n.2.2.2.2.2.2.2.2.2.2.2.2.2.2.1,n.2.2.2.2.2.2.2.2.2.2.2.2.2.2.2.1,jn m.2.2.2.1 m.2.2.2.2.2.2.2.2.2.1 k,())∧rb n∧
  m.2.2.2.2.2.2.2.2.2.1+((k:Nat):Int)≤((dH m.2.2.2.1:Nat):Int)∧(∀j,j<k→¬Bp m.2.2.2.1 m.2.2.2.2.2.2.2.2.1 (m.2.2.2.2.2.2.2.2.2.1+((j+1:Nat):Int)))∧(m.2.2.2.2.2.2.2.2.2.1+((k:Nat):Int)<((dH m.2.2.2.1:Nat):Int)→Bp m.2.2.2.1 m.2.2.2.2.2.2.2.2.1 (m.2.2.2.2.2.2.2.2.2.1+((k+1:Nat):Int))):=by
 have hw:=hm.small;have hb:=(tL m (Nat.le_trans hw (by decide))).2.2.2 hm;obtain ⟨k,v,h1,h2,h3,_,h5⟩:=Oy m (Nat.le_trans hw (by decide));subst h3;obtain ⟨g1,g2,g3⟩:=h5 hb;have hh:=hm.heard;exact ⟨k,_,rfl,h2,h1,{ ring:=hm.ring,mem:=hm.mem,items:=hm.items,texts:=hm.texts,Yq:=hm.Yq,short:=hm.short,round:=hm.round,seen:=hm.seen,line:=hm.line,heard:=⟨by show 0≤m.2.2.2.2.2.2.2.2.2.1+((k:Nat):Int);omega,g1⟩,last:=hm.last },g1,g2,g3⟩
end Go.TM
set_option linter.unusedSimpArgs false
set_option linter.unusedVariables false
namespace Go.TM
open Go
theorem Mz (c:Int) (xs:List (Int×Unit)) (id:Int) (h:xs.length≤1048576) (hr:ee c xs=some (true,())) (hm:(id,())∈xs):fY id c xs=some (id,c,xs,[],[],[],0,0,0,0,0,0,0,0,0,[],true,()):=by
 unfold fY;simp only [hr,zw _ _ h,ak hm,Option.bind_some,Bool.not_true,cond_false,aT (show (0+xs.length)*8≤lim by unfold lim;omega),cond_true,List.nil_append]
theorem MA (c:Int) (xs:List (Int×Unit)) (id:Int) (h:xs.length≤1048576) (hr:gV c xs=some (true,())) (hm:(id,())∈xs):jm id c xs=some (id,c,xs,[],[],[],0,0,0,0,0,0,0,0,0,[],true,()):=by
 unfold jm bM;simp only [hr,Mo _ _ h,ak hm,Option.bind_some,Bool.not_true,cond_false,lL xs h]
theorem map_take {α β:Type} (f:α→β) (xs:List α) {k:Nat} (hk:k<xs.length):(xs.take (k+1)).map f=(xs.take k).map f++[f xs[k]]:=by
 rw [List.take_succ_eq_append_getElem hk,List.map_append];rfl
end Go.TM
set_option linter.unusedSimpArgs false
set_option linter.unusedVariables false
namespace Go.TM
open Go
theorem El (xs:List dS) (h:jr xs):gL xs=some (xs,()):=by
 have UK:=h.len;have hl:=ck (round:=cQ) (e:=.inl (xs,())) xs.length (fun k=>(xs,xs.take k,((k:Nat):Int),())) (by
  simp only [cQ,gD,aw,aA,aM,cond_false,List.take_length]) (fun k hk=>by
  simp only [cQ,gD,aw,aA,aE hk,ax,cond_true,aF,List.getElem?_eq_getElem hk,Option.bind_some,(jt xs[k] (h.at hk)).1,List.length_take,Nat.min_eq_left (Nat.le_of_lt hk),aT (show (k+1)*48≤lim by unfold lim;omega),aN (show k<4611686018427387904 by omega)];rw [List.take_succ_eq_append_getElem hk])
 have hl:aJ cQ (xs,[],(0:Int),())=_:=hl;unfold gL;rw [hl];rfl
theorem OG (xs:List EvR) {k:Nat} (hk:k<xs.length) (h:xs.length+wl bt xs≤4194304):xs[k].2.2.1.length≤4194304∧xs[k].2.2.2.2.2.2.2.1.length≤4194304:=by
 have hw:=HH bt xs xs[k] (List.getElem_mem hk);have:bt xs[k]=(List.length xs[k].2.2.1+wl jV xs[k].2.2.1)+ByteArray.size xs[k].2.2.2.2.2.2.1+(List.length xs[k].2.2.2.2.2.2.2.1+wl jV xs[k].2.2.2.2.2.2.2.1):=rfl;omega
theorem Fz (xs:List EvR) (h:xs.length+wl bt xs≤4194304):db xs=some (xs,()):=by
 have hl:=ck (round:=cW) (e:=.inl (xs,())) xs.length (fun k=>(xs,xs.take k,((k:Nat):Int),())) (by
  simp only [cW,hY,aA,aM,cond_false,List.take_length]) (fun k hk=>by
  obtain ⟨e1,e2⟩:=OG xs hk h;simp only [cW,hY,aA,aE hk,ax,cond_true,aF,List.getElem?_eq_getElem hk,Option.bind_some,List.length_take,Nat.min_eq_left (Nat.le_of_lt hk),aT (show (0+xs[k].2.2.1.length)*8≤lim by unfold lim;omega),aT (show (0+xs[k].2.2.2.2.2.2.2.1.length)*8≤lim by unfold lim;omega),aT (show (k+1)*104≤lim by unfold lim;omega),aN (show k<4611686018427387904 by omega),List.nil_append];rw [List.take_succ_eq_append_getElem hk])
 have hl:aJ cW (xs,[],(0:Int),())=_:=hl;unfold db;rw [hl];rfl
theorem OH (d:bZ) (h1:mq (aI d)≤1048576) (h2:d.2.2.2.2.2.2.2.2.2.2.2.2.2.2.2.2.2.2.2.2.2.1.length≤1048576) (h3:jr d.2.2.2.2.2.2.2.2.2.2.2.2.2.2.2.2.2.2.2.2.2.2.1) (h4:d.2.2.2.2.2.2.2.2.2.2.2.2.2.2.2.2.2.2.2.2.2.2.2.1.length+wl bt d.2.2.2.2.2.2.2.2.2.2.2.2.2.2.2.2.2.2.2.2.2.2.2.1≤4194304):cn d.1 d.2.1 d.2.2.1 d.2.2.2.1 d.2.2.2.2.1 d.2.2.2.2.2.1 d.2.2.2.2.2.2.1 d.2.2.2.2.2.2.2.1 d.2.2.2.2.2.2.2.2.1 d.2.2.2.2.2.2.2.2.2.1 d.2.2.2.2.2.2.2.2.2.2.1 d.2.2.2.2.2.2.2.2.2.2.2.1 d.2.2.2.2.2.2.2.2.2.2.2.2.1 d.2.2.2.2.2.2.2.2.2.2.2.2.2.1 d.2.2.2.2.2.2.2.2.2.2.2.2.2.2.1 d.2.2.2.2.2.2.2.2.2.2.2.2.2.2.2.1 d.2.2.2.2.2.2.2.2.2.2.2.2.2.2.2.2.1 d.2.2.2.2.2.2.2.2.2.2.2.2.2.2.2.2.2.1 d.2.2.2.2.2.2.2.2.2.2.2.2.2.2.2.2.2.2.1 d.2.2.2.2.2.2.2.2.2.2.2.2.2.2.2.2.2.2.2.1 d.2.2.2.2.2.2.2.2.2.2.2.2.2.2.2.2.2.2.2.2.1 d.2.2.2.2.2.2.2.2.2.2.2.2.2.2.2.2.2.2.2.2.2.1 d.2.2.2.2.2.2.2.2.2.2.2.2.2.2.2.2.2.2.2.2.2.2.1 d.2.2.2.2.2.2.2.2.2.2.2.2.2.2.2.2.2.2.2.2.2.2.2.1=some d:=by
 have p:gC d.2.2.1 d.2.2.2.1 d.2.2.2.2.1 d.2.2.2.2.2.1 d.2.2.2.2.2.2.1 d.2.2.2.2.2.2.2.1 d.2.2.2.2.2.2.2.2.1 d.2.2.2.2.2.2.2.2.2.1 d.2.2.2.2.2.2.2.2.2.2.1 d.2.2.2.2.2.2.2.2.2.2.2.1 d.2.2.2.2.2.2.2.2.2.2.2.2.1 d.2.2.2.2.2.2.2.2.2.2.2.2.2.1 d.2.2.2.2.2.2.2.2.2.2.2.2.2.2.1 d.2.2.2.2.2.2.2.2.2.2.2.2.2.2.2.1 d.2.2.2.2.2.2.2.2.2.2.2.2.2.2.2.2.1 d.2.2.2.2.2.2.2.2.2.2.2.2.2.2.2.2.2.1=some (d.2.2.1,d.2.2.2.1,d.2.2.2.2.1,d.2.2.2.2.2.1,d.2.2.2.2.2.2.1,d.2.2.2.2.2.2.2.1,d.2.2.2.2.2.2.2.2.1,d.2.2.2.2.2.2.2.2.2.1,d.2.2.2.2.2.2.2.2.2.2.1,d.2.2.2.2.2.2.2.2.2.2.2.1,d.2.2.2.2.2.2.2.2.2.2.2.2.1,d.2.2.2.2.2.2.2.2.2.2.2.2.2.1,d.2.2.2.2.2.2.2.2.2.2.2.2.2.2.1,d.2.2.2.2.2.2.2.2.2.2.2.2.2.2.2.1,d.2.2.2.2.2.2.2.2.2.2.2.2.2.2.2.2.1,d.2.2.2.2.2.2.2.2.2.2.2.2.2.2.2.2.2.1,())∧fS d.2.2.1 d.2.2.2.1 d.2.2.2.2.1 d.2.2.2.2.2.1 d.2.2.2.2.2.2.1 d.2.2.2.2.2.2.2.1 d.2.2.2.2.2.2.2.2.1 d.2.2.2.2.2.2.2.2.2.1 d.2.2.2.2.2.2.2.2.2.2.1 d.2.2.2.2.2.2.2.2.2.2.2.1 d.2.2.2.2.2.2.2.2.2.2.2.2.1 d.2.2.2.2.2.2.2.2.2.2.2.2.2.1 d.2.2.2.2.2.2.2.2.2.2.2.2.2.2.1 d.2.2.2.2.2.2.2.2.2.2.2.2.2.2.2.1 d.2.2.2.2.2.2.2.2.2.2.2.2.2.2.2.2.1 d.2.2.2.2.2.2.2.2.2.2.2.2.2.2.2.2.2.1=some (d.2.2.1,d.2.2.2.1,d.2.2.2.2.1,d.2.2.2.2.2.1,d.2.2.2.2.2.2.1,d.2.2.2.2.2.2.2.1,d.2.2.2.2.2.2.2.2.1,d.2.2.2.2.2.2.2.2.2.1,d.2.2.2.2.2.2.2.2.2.2.1,d.2.2.2.2.2.2.2.2.2.2.2.1,d.2.2.2.2.2.2.2.2.2.2.2.2.1,d.2.2.2.2.2.2.2.2.2.2.2.2.2.1,d.2.2.2.2.2.2.2.2.2.2.2.2.2.2.1,d.2.2.2.2.2.2.2.2.2.2.2.2.2.2.2.1,d.2.2.2.2.2.2.2.2.2.2.2.2.2.2.2.2.1,d.2.2.2.2.2.2.2.2.2.2.2.2.2.2.2.2.2.1,()):=nS d.2.2.1 d.2.2.2.1 d.2.2.2.2.1 d.2.2.2.2.2.1 d.2.2.2.2.2.2.1 d.2.2.2.2.2.2.2.1 d.2.2.2.2.2.2.2.2.1 d.2.2.2.2.2.2.2.2.2.1 d.2.2.2.2.2.2.2.2.2.2.1 d.2.2.2.2.2.2.2.2.2.2.2.1 d.2.2.2.2.2.2.2.2.2.2.2.2.1 d.2.2.2.2.2.2.2.2.2.2.2.2.2.1 d.2.2.2.2.2.2.2.2.2.2.2.2.2.2.1 d.2.2.2.2.2.2.2.2.2.2.2.2.2.2.2.1 d.2.2.2.2.2.2.2.2.2.2.2.2.2.2.2.2.1 d.2.2.2.2.2.2.2.2.2.2.2.2.2.2.2.2.2.1 h1;unfold cn;delta cV;simp only [p.1,El d.2.2.2.2.2.2.2.2.2.2.2.2.2.2.2.2.2.2.2.2.2.2.1 h3,Fz d.2.2.2.2.2.2.2.2.2.2.2.2.2.2.2.2.2.2.2.2.2.2.2.1 h4,Option.bind_some,aT (show (0+(d.2.2.2.2.2.2.2.2.2.2.2.2.2.2.2.2.2.2.2.2.2.1).length)*8≤lim by unfold lim;omega),cond_true,List.nil_append]
noncomputable def Br (d:bZ):List tK:=[(2,d.2.2.2.1,d.2.2.2.2.1,0,0,0,ByteArray.empty,ff d.2.2.2.2.2.2.2.2.2.2.2.2.2.2.2.2.2.2.2.2.2.2.1 d.2.2.2.2.2.2.2.2.2.2.2.2.2.2.2.2.2.2.2.2.1 d.2.2.2.2.2.2.2.2.2.2.2.2.2.2.2.2.2.2.2.2.2.1 d.1,())]++gv d.2.2.2.1 d.2.2.2.2.1 (tV d.2.2.2.2.2.2.2.2.2.2.2.2.2.2.2.2.2.2.2.2.2.2.1 d.2.2.2.2.2.2.2.2.2.2.2.2.2.2.2.2.2.2.2.2.1 d.2.2.2.2.2.2.2.2.2.2.2.2.2.2.2.2.2.2.2.2.2.1 d.1 d.2.2.2.2.2.2.2.2.2.2.2.1)
noncomputable def x6 (d:bZ):List tK:=bif decide (0<d.2.2.2.2.2.2.2.2.2.2.2.2.2.2.2.2.2.2.2.1) then d.2.2.2.2.2.2.2.2.2.2.2.2.2.2.2.2.2.2.2.2.2.2.2.1++Br d else d.2.2.2.2.2.2.2.2.2.2.2.2.2.2.2.2.2.2.2.2.2.2.2.1
noncomputable def dU (d:bZ):bZ:=(d.1,d.2.1,d.1,d.2.2.2.2.2.2.2.2.2.2.2.2.2.2.2.2.2.2.2.2.1,d.2.2.2.2.2.2.2.2.2.2.2.2.2.2.2.2.2.2.2.2.2.1,[],d.2.2.2.2.2.2.1,d.2.2.2.2.2.2.2.1,0,0,0,0,0,0,0,0,0,[],d.2.2.2.2.2.2.2.2.2.2.2.2.2.2.2.2.2.2.1,d.2.2.2.2.2.2.2.2.2.2.2.2.2.2.2.2.2.2.2.2.1,0,[],[],x6 d++[(3,d.2.2.2.2.2.2.2.2.2.2.2.2.2.2.2.2.2.2.2.2.1,d.2.2.2.2.2.2.2.2.2.2.2.2.2.2.2.2.2.2.2.2.2.1,0,0,0,ByteArray.empty,d.2.2.2.2.2.2.2.2.2.2.2.2.2.2.2.2.2.2.2.2.2.1,())],())
def IQ (d:bZ):List tK:=d.2.2.2.2.2.2.2.2.2.2.2.2.2.2.2.2.2.2.2.2.2.2.2.1
def px (d:bZ) (l:List tK):bZ:=(d.1,d.2.1,d.2.2.1,d.2.2.2.1,d.2.2.2.2.1,d.2.2.2.2.2.1,d.2.2.2.2.2.2.1,d.2.2.2.2.2.2.2.1,d.2.2.2.2.2.2.2.2.1,d.2.2.2.2.2.2.2.2.2.1,d.2.2.2.2.2.2.2.2.2.2.1,d.2.2.2.2.2.2.2.2.2.2.2.1,d.2.2.2.2.2.2.2.2.2.2.2.2.1,d.2.2.2.2.2.2.2.2.2.2.2.2.2.1,d.2.2.2.2.2.2.2.2.2.2.2.2.2.2.1,d.2.2.2.2.2.2.2.2.2.2.2.2.2.2.2.1,d.2.2.2.2.2.2.2.2.2.2.2.2.2.2.2.2.1,d.2.2.2.2.2.2.2.2.2.2.2.2.2.2.2.2.2.1,d.2.2.2.2.2.2.2.2.2.2.2.2.2.2.2.2.2.2.1,d.2.2.2.2.2.2.2.2.2.2.2.2.2.2.2.2.2.2.2.1,d.2.2.2.2.2.2.2.2.2.2.2.2.2.2.2.2.2.2.2.2.1,d.2.2.2.2.2.2.2.2.2.2.2.2.2.2.2.2.2.2.2.2.2.1,d.2.2.2.2.2.2.2.2.2.2.2.2.2.2.2.2.2.2.2.2.2.2.1,l,())
theorem MB (d:bZ) (c:Int) (ms:dC) (l:aV) (hr:ms.length≤1048576) (hl:l.length≤1048576) (hg:d.2.2.2.2.2.2.2.2.2.2.2.2.2.2.2.2.2.2.2.2.2.2.2.1.length≤1048577):aJ eK (d.1,d.2.1,d.2.2.1,d.2.2.2.1,d.2.2.2.2.1,d.2.2.2.2.2.1,d.2.2.2.2.2.2.1,d.2.2.2.2.2.2.2.1,d.2.2.2.2.2.2.2.2.1,d.2.2.2.2.2.2.2.2.2.1,d.2.2.2.2.2.2.2.2.2.2.1,d.2.2.2.2.2.2.2.2.2.2.2.1,d.2.2.2.2.2.2.2.2.2.2.2.2.1,d.2.2.2.2.2.2.2.2.2.2.2.2.2.1,d.2.2.2.2.2.2.2.2.2.2.2.2.2.2.1,d.2.2.2.2.2.2.2.2.2.2.2.2.2.2.2.1,d.2.2.2.2.2.2.2.2.2.2.2.2.2.2.2.2.1,d.2.2.2.2.2.2.2.2.2.2.2.2.2.2.2.2.2.1,d.2.2.2.2.2.2.2.2.2.2.2.2.2.2.2.2.2.2.1,d.2.2.2.2.2.2.2.2.2.2.2.2.2.2.2.2.2.2.2.1,d.2.2.2.2.2.2.2.2.2.2.2.2.2.2.2.2.2.2.2.2.1,d.2.2.2.2.2.2.2.2.2.2.2.2.2.2.2.2.2.2.2.2.2.1,d.2.2.2.2.2.2.2.2.2.2.2.2.2.2.2.2.2.2.2.2.2.2.1,d.2.2.2.2.2.2.2.2.2.2.2.2.2.2.2.2.2.2.2.2.2.2.2.1,c,ms,l,(0:Int),())=some (.inl (px d (d.2.2.2.2.2.2.2.2.2.2.2.2.2.2.2.2.2.2.2.2.2.2.2.1++gv c ms l))):=by
 have l1:=ck (round:=eK) (e:=.inl (px d (d.2.2.2.2.2.2.2.2.2.2.2.2.2.2.2.2.2.2.2.2.2.2.2.1++gv c ms l))) l.length (fun k=>(d.1,d.2.1,d.2.2.1,d.2.2.2.1,d.2.2.2.2.1,d.2.2.2.2.2.1,d.2.2.2.2.2.2.1,d.2.2.2.2.2.2.2.1,d.2.2.2.2.2.2.2.2.1,d.2.2.2.2.2.2.2.2.2.1,d.2.2.2.2.2.2.2.2.2.2.1,d.2.2.2.2.2.2.2.2.2.2.2.1,d.2.2.2.2.2.2.2.2.2.2.2.2.1,d.2.2.2.2.2.2.2.2.2.2.2.2.2.1,d.2.2.2.2.2.2.2.2.2.2.2.2.2.2.1,d.2.2.2.2.2.2.2.2.2.2.2.2.2.2.2.1,d.2.2.2.2.2.2.2.2.2.2.2.2.2.2.2.2.1,d.2.2.2.2.2.2.2.2.2.2.2.2.2.2.2.2.2.1,d.2.2.2.2.2.2.2.2.2.2.2.2.2.2.2.2.2.2.1,d.2.2.2.2.2.2.2.2.2.2.2.2.2.2.2.2.2.2.2.1,d.2.2.2.2.2.2.2.2.2.2.2.2.2.2.2.2.2.2.2.2.1,d.2.2.2.2.2.2.2.2.2.2.2.2.2.2.2.2.2.2.2.2.2.1,d.2.2.2.2.2.2.2.2.2.2.2.2.2.2.2.2.2.2.2.2.2.2.1,d.2.2.2.2.2.2.2.2.2.2.2.2.2.2.2.2.2.2.2.2.2.2.2.1++gv c ms (l.take k),c,ms,l,((k:Nat):Int),())) (by
  simp only [eK,az,aw,pG,aA,aM,cond_false,List.take_length,px]) (fun k hk=>by
  have hlen:(d.2.2.2.2.2.2.2.2.2.2.2.2.2.2.2.2.2.2.2.2.2.2.2.1++gv c ms (l.take k)).length≤1048577+1048576:=by
   rw [List.length_append,oz,List.length_take];omega
  simp only [eK,az,aw,pG,aA,aE hk,ax,cond_true,aF,fl hk,List.getElem?_eq_getElem hk,Option.bind_some,mU _ _ hr,aT (show ((d.2.2.2.2.2.2.2.2.2.2.2.2.2.2.2.2.2.2.2.2.2.2.2.1++gv c ms (l.take k)).length+1)*104≤lim by unfold lim;omega),aN (show k<4611686018427387904 by omega)];rw [Ej hk])
 have l1:aJ eK (d.1,d.2.1,d.2.2.1,d.2.2.2.1,d.2.2.2.2.1,d.2.2.2.2.2.1,d.2.2.2.2.2.2.1,d.2.2.2.2.2.2.2.1,d.2.2.2.2.2.2.2.2.1,d.2.2.2.2.2.2.2.2.2.1,d.2.2.2.2.2.2.2.2.2.2.1,d.2.2.2.2.2.2.2.2.2.2.2.1,d.2.2.2.2.2.2.2.2.2.2.2.2.1,d.2.2.2.2.2.2.2.2.2.2.2.2.2.1,d.2.2.2.2.2.2.2.2.2.2.2.2.2.2.1,d.2.2.2.2.2.2.2.2.2.2.2.2.2.2.2.1,d.2.2.2.2.2.2.2.2.2.2.2.2.2.2.2.2.1,d.2.2.2.2.2.2.2.2.2.2.2.2.2.2.2.2.2.1,d.2.2.2.2.2.2.2.2.2.2.2.2.2.2.2.2.2.2.1,d.2.2.2.2.2.2.2.2.2.2.2.2.2.2.2.2.2.2.2.1,d.2.2.2.2.2.2.2.2.2.2.2.2.2.2.2.2.2.2.2.2.1,d.2.2.2.2.2.2.2.2.2.2.2.2.2.2.2.2.2.2.2.2.2.1,d.2.2.2.2.2.2.2.2.2.2.2.2.2.2.2.2.2.2.2.2.2.2.1,d.2.2.2.2.2.2.2.2.2.2.2.2.2.2.2.2.2.2.2.2.2.2.2.1++gv c ms (l.take 0),c,ms,l,(0:Int),())=_:=l1;rw [show gv c ms (l.take 0)=[] from rfl,List.append_nil] at l1;exact l1
theorem Uq (d:bZ) (l:aV) (hr:d.2.2.2.2.1.length≤1048576) (hl:l.length≤1048576) (hg:d.2.2.2.2.2.2.2.2.2.2.2.2.2.2.2.2.2.2.2.2.2.2.2.1.length≤1048577):jF d.1 d.2.1 d.2.2.1 d.2.2.2.1 d.2.2.2.2.1 d.2.2.2.2.2.1 d.2.2.2.2.2.2.1 d.2.2.2.2.2.2.2.1 d.2.2.2.2.2.2.2.2.1 d.2.2.2.2.2.2.2.2.2.1 d.2.2.2.2.2.2.2.2.2.2.1 d.2.2.2.2.2.2.2.2.2.2.2.1 d.2.2.2.2.2.2.2.2.2.2.2.2.1 d.2.2.2.2.2.2.2.2.2.2.2.2.2.1 d.2.2.2.2.2.2.2.2.2.2.2.2.2.2.1 d.2.2.2.2.2.2.2.2.2.2.2.2.2.2.2.1 d.2.2.2.2.2.2.2.2.2.2.2.2.2.2.2.2.1 d.2.2.2.2.2.2.2.2.2.2.2.2.2.2.2.2.2.1 d.2.2.2.2.2.2.2.2.2.2.2.2.2.2.2.2.2.2.1 d.2.2.2.2.2.2.2.2.2.2.2.2.2.2.2.2.2.2.2.1 d.2.2.2.2.2.2.2.2.2.2.2.2.2.2.2.2.2.2.2.2.1 d.2.2.2.2.2.2.2.2.2.2.2.2.2.2.2.2.2.2.2.2.2.1 d.2.2.2.2.2.2.2.2.2.2.2.2.2.2.2.2.2.2.2.2.2.2.1 d.2.2.2.2.2.2.2.2.2.2.2.2.2.2.2.2.2.2.2.2.2.2.2.1 l=some (px d (d.2.2.2.2.2.2.2.2.2.2.2.2.2.2.2.2.2.2.2.2.2.2.2.1++gv d.2.2.2.1 d.2.2.2.2.1 l)):=by
 have l1:=ck (round:=gN) (e:=.inl (px d (d.2.2.2.2.2.2.2.2.2.2.2.2.2.2.2.2.2.2.2.2.2.2.2.1++gv d.2.2.2.1 d.2.2.2.2.1 l))) l.length (fun k=>(d.1,d.2.1,d.2.2.1,d.2.2.2.1,d.2.2.2.2.1,d.2.2.2.2.2.1,d.2.2.2.2.2.2.1,d.2.2.2.2.2.2.2.1,d.2.2.2.2.2.2.2.2.1,d.2.2.2.2.2.2.2.2.2.1,d.2.2.2.2.2.2.2.2.2.2.1,d.2.2.2.2.2.2.2.2.2.2.2.1,d.2.2.2.2.2.2.2.2.2.2.2.2.1,d.2.2.2.2.2.2.2.2.2.2.2.2.2.1,d.2.2.2.2.2.2.2.2.2.2.2.2.2.2.1,d.2.2.2.2.2.2.2.2.2.2.2.2.2.2.2.1,d.2.2.2.2.2.2.2.2.2.2.2.2.2.2.2.2.1,d.2.2.2.2.2.2.2.2.2.2.2.2.2.2.2.2.2.1,d.2.2.2.2.2.2.2.2.2.2.2.2.2.2.2.2.2.2.1,d.2.2.2.2.2.2.2.2.2.2.2.2.2.2.2.2.2.2.2.1,d.2.2.2.2.2.2.2.2.2.2.2.2.2.2.2.2.2.2.2.2.1,d.2.2.2.2.2.2.2.2.2.2.2.2.2.2.2.2.2.2.2.2.2.1,d.2.2.2.2.2.2.2.2.2.2.2.2.2.2.2.2.2.2.2.2.2.2.1,d.2.2.2.2.2.2.2.2.2.2.2.2.2.2.2.2.2.2.2.2.2.2.2.1++gv d.2.2.2.1 d.2.2.2.2.1 (l.take k),l,((List.length l:Nat):Int),((k:Nat):Int),())) (by
  simp only [gN,az,oS,aA,aM,cond_false,List.take_length,px]) (fun k hk=>by
  have hlen:(d.2.2.2.2.2.2.2.2.2.2.2.2.2.2.2.2.2.2.2.2.2.2.2.1++gv d.2.2.2.1 d.2.2.2.2.1 (l.take k)).length≤1048577+1048576:=by
   rw [List.length_append,oz,List.length_take];omega
  simp only [gN,az,oS,aA,aE hk,ax,cond_true,aF,List.getElem?_eq_getElem hk,Option.bind_some,mT _ _ hr,aT (show ((d.2.2.2.2.2.2.2.2.2.2.2.2.2.2.2.2.2.2.2.2.2.2.2.1++gv d.2.2.2.1 d.2.2.2.2.1 (l.take k)).length+1)*104≤lim by unfold lim;omega),aN (show k<4611686018427387904 by omega)];rw [Ej hk])
 have l1:aJ gN (d.1,d.2.1,d.2.2.1,d.2.2.2.1,d.2.2.2.2.1,d.2.2.2.2.2.1,d.2.2.2.2.2.2.1,d.2.2.2.2.2.2.2.1,d.2.2.2.2.2.2.2.2.1,d.2.2.2.2.2.2.2.2.2.1,d.2.2.2.2.2.2.2.2.2.2.1,d.2.2.2.2.2.2.2.2.2.2.2.1,d.2.2.2.2.2.2.2.2.2.2.2.2.1,d.2.2.2.2.2.2.2.2.2.2.2.2.2.1,d.2.2.2.2.2.2.2.2.2.2.2.2.2.2.1,d.2.2.2.2.2.2.2.2.2.2.2.2.2.2.2.1,d.2.2.2.2.2.2.2.2.2.2.2.2.2.2.2.2.1,d.2.2.2.2.2.2.2.2.2.2.2.2.2.2.2.2.2.1,d.2.2.2.2.2.2.2.2.2.2.2.2.2.2.2.2.2.2.1,d.2.2.2.2.2.2.2.2.2.2.2.2.2.2.2.2.2.2.2.1,d.2.2.2.2.2.2.2.2.2.2.2.2.2.2.2.2.2.2.2.2.1,d.2.2.2.2.2.2.2.2.2.2.2.2.2.2.2.2.2.2.2.2.2.1,d.2.2.2.2.2.2.2.2.2.2.2.2.2.2.2.2.2.2.2.2.2.2.1,d.2.2.2.2.2.2.2.2.2.2.2.2.2.2.2.2.2.2.2.2.2.2.2.1++gv d.2.2.2.1 d.2.2.2.2.1 (l.take 0),l,((List.length l:Nat):Int),(0:Int),())=_:=l1;rw [show gv d.2.2.2.1 d.2.2.2.2.1 (l.take 0)=[] from rfl,List.append_nil] at l1;unfold jF;rw [l1];rfl
theorem FA (xs:List dS) (c:Int) (ms:dC) (id heard:Int) (h:jr xs):(tV xs c ms id heard).length≤60∧wl dJ (tV xs c ms id heard)≤3600:=QC xs c ms id heard h
theorem uL (d:bZ) (hr:js d.2.2.2.2.2.2.2.2.2.2.2.2.2.2.2.2.2.2.2.2.1 d.2.2.2.2.2.2.2.2.2.2.2.2.2.2.2.2.2.2.2.2.2.1) (hm:(d.1,())∈d.2.2.2.2.2.2.2.2.2.2.2.2.2.2.2.2.2.2.2.2.2.1) (h3:jr d.2.2.2.2.2.2.2.2.2.2.2.2.2.2.2.2.2.2.2.2.2.2.1) (h4:d.2.2.2.2.1.length≤1048576) (hg:d.2.2.2.2.2.2.2.2.2.2.2.2.2.2.2.2.2.2.2.2.2.2.2.1.length≤1048576):eO d.1 d.2.1 d.2.2.1 d.2.2.2.1 d.2.2.2.2.1 d.2.2.2.2.2.1 d.2.2.2.2.2.2.1 d.2.2.2.2.2.2.2.1 d.2.2.2.2.2.2.2.2.1 d.2.2.2.2.2.2.2.2.2.1 d.2.2.2.2.2.2.2.2.2.2.1 d.2.2.2.2.2.2.2.2.2.2.2.1 d.2.2.2.2.2.2.2.2.2.2.2.2.1 d.2.2.2.2.2.2.2.2.2.2.2.2.2.1 d.2.2.2.2.2.2.2.2.2.2.2.2.2.2.1 d.2.2.2.2.2.2.2.2.2.2.2.2.2.2.2.1 d.2.2.2.2.2.2.2.2.2.2.2.2.2.2.2.2.1 d.2.2.2.2.2.2.2.2.2.2.2.2.2.2.2.2.2.1 d.2.2.2.2.2.2.2.2.2.2.2.2.2.2.2.2.2.2.1 d.2.2.2.2.2.2.2.2.2.2.2.2.2.2.2.2.2.2.2.1 d.2.2.2.2.2.2.2.2.2.2.2.2.2.2.2.2.2.2.2.2.1 d.2.2.2.2.2.2.2.2.2.2.2.2.2.2.2.2.2.2.2.2.2.1 d.2.2.2.2.2.2.2.2.2.2.2.2.2.2.2.2.2.2.2.2.2.2.1 d.2.2.2.2.2.2.2.2.2.2.2.2.2.2.2.2.2.2.2.2.2.2.2.1=some (dU d)∧dg d.1 d.2.1 d.2.2.1 d.2.2.2.1 d.2.2.2.2.1 d.2.2.2.2.2.1 d.2.2.2.2.2.2.1 d.2.2.2.2.2.2.2.1 d.2.2.2.2.2.2.2.2.1 d.2.2.2.2.2.2.2.2.2.1 d.2.2.2.2.2.2.2.2.2.2.1 d.2.2.2.2.2.2.2.2.2.2.2.1 d.2.2.2.2.2.2.2.2.2.2.2.2.1 d.2.2.2.2.2.2.2.2.2.2.2.2.2.1 d.2.2.2.2.2.2.2.2.2.2.2.2.2.2.1 d.2.2.2.2.2.2.2.2.2.2.2.2.2.2.2.1 d.2.2.2.2.2.2.2.2.2.2.2.2.2.2.2.2.1 d.2.2.2.2.2.2.2.2.2.2.2.2.2.2.2.2.2.1 d.2.2.2.2.2.2.2.2.2.2.2.2.2.2.2.2.2.2.1 d.2.2.2.2.2.2.2.2.2.2.2.2.2.2.2.2.2.2.2.1 d.2.2.2.2.2.2.2.2.2.2.2.2.2.2.2.2.2.2.2.2.1 d.2.2.2.2.2.2.2.2.2.2.2.2.2.2.2.2.2.2.2.2.2.1 d.2.2.2.2.2.2.2.2.2.2.2.2.2.2.2.2.2.2.2.2.2.2.1 d.2.2.2.2.2.2.2.2.2.2.2.2.2.2.2.2.2.2.2.2.2.2.2.1=some (dU d):=by
 have h5:=hr.2.1.2;have h5:d.2.2.2.2.2.2.2.2.2.2.2.2.2.2.2.2.2.2.2.2.2.1.length≤1048576:=by omega
 obtain ⟨q1,q2,q3⟩:=ou d.2.2.2.2.2.2.2.2.2.2.2.2.2.2.2.2.2.2.2.2.1 d.2.2.2.2.2.2.2.2.2.2.2.2.2.2.2.2.2.2.2.2.2.1 h5;rw [q3.2 hr] at q1 q2;have m1:=Mz d.2.2.2.2.2.2.2.2.2.2.2.2.2.2.2.2.2.2.2.2.1 d.2.2.2.2.2.2.2.2.2.2.2.2.2.2.2.2.2.2.2.2.2.1 d.1 h5 q1 hm;have m2:=MA d.2.2.2.2.2.2.2.2.2.2.2.2.2.2.2.2.2.2.2.2.1 d.2.2.2.2.2.2.2.2.2.2.2.2.2.2.2.2.2.2.2.2.2.1 d.1 h5 q2 hm;obtain ⟨t1,t2,t3⟩:=ss d.2.2.2.2.2.2.2.2.2.2.2.2.2.2.2.2.2.2.2.2.1 d.2.2.2.2.2.2.2.2.2.2.2.2.2.2.2.2.2.2.2.2.2.1 d.2.2.2.2.2.2.2.2.2.2.2.2.2.2.2.2.2.2.2.2.2.2.1 d.1 h5 h3;obtain ⟨r1,r2⟩:=Ul d.2.2.2.2.2.2.2.2.2.2.2.2.2.2.2.2.2.2.2.2.1 d.2.2.2.2.2.2.2.2.2.2.2.2.2.2.2.2.2.2.2.2.2.1 d.2.2.2.2.2.2.2.2.2.2.2.2.2.2.2.2.2.2.2.2.2.2.1 d.1 d.2.2.2.2.2.2.2.2.2.2.2.1 h5 h3;obtain ⟨z1,z2⟩:=FA d.2.2.2.2.2.2.2.2.2.2.2.2.2.2.2.2.2.2.2.2.2.2.1 d.2.2.2.2.2.2.2.2.2.2.2.2.2.2.2.2.2.2.2.2.1 d.2.2.2.2.2.2.2.2.2.2.2.2.2.2.2.2.2.2.2.2.2.1 d.1 d.2.2.2.2.2.2.2.2.2.2.2.1 h3;have c1:=lL d.2.2.2.2.2.2.2.2.2.2.2.2.2.2.2.2.2.2.2.2.2.1 h5;have c2:=mT d.2.2.2.2.2.2.2.2.2.2.2.2.2.2.2.2.2.2.2.2.1 d.2.2.2.2.2.2.2.2.2.2.2.2.2.2.2.2.2.2.2.2.2.1 h5;have c3:=mU d.2.2.2.2.2.2.2.2.2.2.2.2.2.2.2.2.2.2.2.2.1 d.2.2.2.2.2.2.2.2.2.2.2.2.2.2.2.2.2.2.2.2.2.1 h5;have c4:=mT d.2.2.2.1 d.2.2.2.2.1 h4;have c5:=mU d.2.2.2.1 d.2.2.2.2.1 h4;generalize gS:tV d.2.2.2.2.2.2.2.2.2.2.2.2.2.2.2.2.2.2.2.2.2.2.1 d.2.2.2.2.2.2.2.2.2.2.2.2.2.2.2.2.2.2.2.2.1 d.2.2.2.2.2.2.2.2.2.2.2.2.2.2.2.2.2.2.2.2.2.1 d.1 d.2.2.2.2.2.2.2.2.2.2.2.1=rest at *;generalize alh:ff d.2.2.2.2.2.2.2.2.2.2.2.2.2.2.2.2.2.2.2.2.2.2.1 d.2.2.2.2.2.2.2.2.2.2.2.2.2.2.2.2.2.2.2.2.1 d.2.2.2.2.2.2.2.2.2.2.2.2.2.2.2.2.2.2.2.2.2.1 d.1=Em at *;have hlen:(d.2.2.2.2.2.2.2.2.2.2.2.2.2.2.2.2.2.2.2.2.2.2.2.1++[((2,d.2.2.2.1,d.2.2.2.2.1,0,0,0,ByteArray.empty,Em,()):tK)]).length≤1048577:=by rw [List.length_append,List.length_singleton];omega
 have i1:=MB (px d (d.2.2.2.2.2.2.2.2.2.2.2.2.2.2.2.2.2.2.2.2.2.2.2.1++[(2,d.2.2.2.1,d.2.2.2.2.1,0,0,0,ByteArray.empty,Em,())])) d.2.2.2.1 d.2.2.2.2.1 rest h4 (by omega) hlen;have i2:=Uq (px d (d.2.2.2.2.2.2.2.2.2.2.2.2.2.2.2.2.2.2.2.2.2.2.2.1++[(2,d.2.2.2.1,d.2.2.2.2.1,0,0,0,ByteArray.empty,Em,())])) rest h4 (by omega) hlen;have i1:aJ eK (d.1,d.2.1,d.2.2.1,d.2.2.2.1,d.2.2.2.2.1,d.2.2.2.2.2.1,d.2.2.2.2.2.2.1,d.2.2.2.2.2.2.2.1,d.2.2.2.2.2.2.2.2.1,d.2.2.2.2.2.2.2.2.2.1,d.2.2.2.2.2.2.2.2.2.2.1,d.2.2.2.2.2.2.2.2.2.2.2.1,d.2.2.2.2.2.2.2.2.2.2.2.2.1,d.2.2.2.2.2.2.2.2.2.2.2.2.2.1,d.2.2.2.2.2.2.2.2.2.2.2.2.2.2.1,d.2.2.2.2.2.2.2.2.2.2.2.2.2.2.2.1,d.2.2.2.2.2.2.2.2.2.2.2.2.2.2.2.2.1,d.2.2.2.2.2.2.2.2.2.2.2.2.2.2.2.2.2.1,d.2.2.2.2.2.2.2.2.2.2.2.2.2.2.2.2.2.2.1,d.2.2.2.2.2.2.2.2.2.2.2.2.2.2.2.2.2.2.2.1,d.2.2.2.2.2.2.2.2.2.2.2.2.2.2.2.2.2.2.2.2.1,d.2.2.2.2.2.2.2.2.2.2.2.2.2.2.2.2.2.2.2.2.2.1,d.2.2.2.2.2.2.2.2.2.2.2.2.2.2.2.2.2.2.2.2.2.2.1,d.2.2.2.2.2.2.2.2.2.2.2.2.2.2.2.2.2.2.2.2.2.2.2.1++[(2,d.2.2.2.1,d.2.2.2.2.1,0,0,0,ByteArray.empty,Em,())],d.2.2.2.1,d.2.2.2.2.1,rest,(0:Int),())=some (.inl (px d ((d.2.2.2.2.2.2.2.2.2.2.2.2.2.2.2.2.2.2.2.2.2.2.2.1++[(2,d.2.2.2.1,d.2.2.2.2.1,0,0,0,ByteArray.empty,Em,())])++gv d.2.2.2.1 d.2.2.2.2.1 rest))):=i1;have i2:jF d.1 d.2.1 d.2.2.1 d.2.2.2.1 d.2.2.2.2.1 d.2.2.2.2.2.1 d.2.2.2.2.2.2.1 d.2.2.2.2.2.2.2.1 d.2.2.2.2.2.2.2.2.1 d.2.2.2.2.2.2.2.2.2.1 d.2.2.2.2.2.2.2.2.2.2.1 d.2.2.2.2.2.2.2.2.2.2.2.1 d.2.2.2.2.2.2.2.2.2.2.2.2.1 d.2.2.2.2.2.2.2.2.2.2.2.2.2.1 d.2.2.2.2.2.2.2.2.2.2.2.2.2.2.1 d.2.2.2.2.2.2.2.2.2.2.2.2.2.2.2.1 d.2.2.2.2.2.2.2.2.2.2.2.2.2.2.2.2.1 d.2.2.2.2.2.2.2.2.2.2.2.2.2.2.2.2.2.1 d.2.2.2.2.2.2.2.2.2.2.2.2.2.2.2.2.2.2.1 d.2.2.2.2.2.2.2.2.2.2.2.2.2.2.2.2.2.2.2.1 d.2.2.2.2.2.2.2.2.2.2.2.2.2.2.2.2.2.2.2.2.1 d.2.2.2.2.2.2.2.2.2.2.2.2.2.2.2.2.2.2.2.2.2.1 d.2.2.2.2.2.2.2.2.2.2.2.2.2.2.2.2.2.2.2.2.2.2.1 (d.2.2.2.2.2.2.2.2.2.2.2.2.2.2.2.2.2.2.2.2.2.2.2.1++[(2,d.2.2.2.1,d.2.2.2.2.1,0,0,0,ByteArray.empty,Em,())]) rest=some (px d ((d.2.2.2.2.2.2.2.2.2.2.2.2.2.2.2.2.2.2.2.2.2.2.2.1++[(2,d.2.2.2.1,d.2.2.2.2.1,0,0,0,ByteArray.empty,Em,())])++gv d.2.2.2.1 d.2.2.2.2.1 rest)):=i2;have W4:Nat.ble ((d.2.2.2.2.2.2.2.2.2.2.2.2.2.2.2.2.2.2.2.2.2.2.2.1.length+1)*104) lim=true:=aT (by unfold lim;omega);have MP:Nat.ble ((((d.2.2.2.2.2.2.2.2.2.2.2.2.2.2.2.2.2.2.2.2.2.2.2.1++[((2,d.2.2.2.1,d.2.2.2.2.1,0,0,0,ByteArray.empty,Em,()):tK)])++gv d.2.2.2.1 d.2.2.2.2.1 rest).length+1)*104) lim=true:=aT (by rw [List.length_append,oz];unfold lim;omega);have hb3:Nat.ble ((0+d.2.2.2.2.2.2.2.2.2.2.2.2.2.2.2.2.2.2.2.2.2.1.length)*8) lim=true:=aT (by unfold lim;omega);unfold dU x6 Br;rw [gS,alh]
 by_cases ho:0<d.2.2.2.2.2.2.2.2.2.2.2.2.2.2.2.2.2.2.2.1
 ·constructor
  ·unfold eO;delta aA eE;simp only [ak ho,cond_true,c5,t1,W4,r1,i1,cg,Option.bind_some,px,c3,hb3,MP,m1,List.nil_append];simp only [List.append_assoc]
  ·unfold dg;delta aA eE;simp only [ak ho,cond_true,c4,t2,W4,r2,i2,Option.bind_some,px,c2,c1,MP,m2];simp only [List.append_assoc]
 ·constructor
  ·unfold eO;delta aA eE;simp only [aq ho,cond_false,cond_true,c3,W4,hb3,m1,Option.bind_some,List.nil_append]
  ·unfold dg;delta aA eE;simp only [aq ho,cond_false,cond_true,c2,c1,W4,m2,Option.bind_some]
theorem MC (d:bZ) (hr:d.2.2.2.2.2.2.2.2.2.2.2.2.2.2.2.2.2.2.2.2.2.1.length≤5) (h4:d.2.2.2.2.1.length≤5) (h3:jr d.2.2.2.2.2.2.2.2.2.2.2.2.2.2.2.2.2.2.2.2.2.2.1) (h6:d.2.2.2.2.2.2.1.length≤1048576) (h7:d.2.2.2.2.2.2.2.1.length+wl Jx d.2.2.2.2.2.2.2.1≤1048576) (hg:d.2.2.2.2.2.2.2.2.2.2.2.2.2.2.2.2.2.2.2.2.2.2.2.1.length+wl bt d.2.2.2.2.2.2.2.2.2.2.2.2.2.2.2.2.2.2.2.2.2.2.2.1≤1048576) :
  mq (aI (dU d))≤2097157∧(IQ (dU d)).length+wl bt (IQ (dU d))≤1060000:=by
 obtain ⟨z1,z2⟩:=FA d.2.2.2.2.2.2.2.2.2.2.2.2.2.2.2.2.2.2.2.2.2.2.1 d.2.2.2.2.2.2.2.2.2.2.2.2.2.2.2.2.2.2.2.2.1 d.2.2.2.2.2.2.2.2.2.2.2.2.2.2.2.2.2.2.2.2.2.1 d.1 d.2.2.2.2.2.2.2.2.2.2.2.1 h3;obtain ⟨_,_,t3⟩:=ss d.2.2.2.2.2.2.2.2.2.2.2.2.2.2.2.2.2.2.2.2.1 d.2.2.2.2.2.2.2.2.2.2.2.2.2.2.2.2.2.2.2.2.2.1 d.2.2.2.2.2.2.2.2.2.2.2.2.2.2.2.2.2.2.2.2.2.2.1 d.1 (by omega) h3;have w0:∀l:dC,wl jV l=0:=fun l=>nc jV (fun _=>rfl) l
 constructor
 ·have e:mq (aI (dU d))=(List.length d.2.2.2.2.2.2.2.2.2.2.2.2.2.2.2.2.2.2.2.2.2.1+wl jV d.2.2.2.2.2.2.2.2.2.2.2.2.2.2.2.2.2.2.2.2.2.1)+0+(List.length d.2.2.2.2.2.2.1+wl jV d.2.2.2.2.2.2.1)+(List.length d.2.2.2.2.2.2.2.1+wl Jx d.2.2.2.2.2.2.2.1)+0:=rfl;rw [e,w0,w0];omega
 ·have e:IQ (dU d)=x6 d++[(3,d.2.2.2.2.2.2.2.2.2.2.2.2.2.2.2.2.2.2.2.2.1,d.2.2.2.2.2.2.2.2.2.2.2.2.2.2.2.2.2.2.2.2.2.1,0,0,0,ByteArray.empty,d.2.2.2.2.2.2.2.2.2.2.2.2.2.2.2.2.2.2.2.2.2.1,())]:=rfl;have e1:bt ((3,d.2.2.2.2.2.2.2.2.2.2.2.2.2.2.2.2.2.2.2.2.1,d.2.2.2.2.2.2.2.2.2.2.2.2.2.2.2.2.2.2.2.2.2.1,0,0,0,ByteArray.empty,d.2.2.2.2.2.2.2.2.2.2.2.2.2.2.2.2.2.2.2.2.2.1,()):tK)=(d.2.2.2.2.2.2.2.2.2.2.2.2.2.2.2.2.2.2.2.2.2.1.length+wl jV d.2.2.2.2.2.2.2.2.2.2.2.2.2.2.2.2.2.2.2.2.2.1)+0+(d.2.2.2.2.2.2.2.2.2.2.2.2.2.2.2.2.2.2.2.2.2.1.length+wl jV d.2.2.2.2.2.2.2.2.2.2.2.2.2.2.2.2.2.2.2.2.2.1):=rfl;have e2:bt ((2,d.2.2.2.1,d.2.2.2.2.1,0,0,0,ByteArray.empty,ff d.2.2.2.2.2.2.2.2.2.2.2.2.2.2.2.2.2.2.2.2.2.2.1 d.2.2.2.2.2.2.2.2.2.2.2.2.2.2.2.2.2.2.2.2.1 d.2.2.2.2.2.2.2.2.2.2.2.2.2.2.2.2.2.2.2.2.2.1 d.1,()):tK)=(d.2.2.2.2.1.length+wl jV d.2.2.2.2.1)+0+((ff d.2.2.2.2.2.2.2.2.2.2.2.2.2.2.2.2.2.2.2.2.2.2.1 d.2.2.2.2.2.2.2.2.2.2.2.2.2.2.2.2.2.2.2.2.1 d.2.2.2.2.2.2.2.2.2.2.2.2.2.2.2.2.2.2.2.2.2.1 d.1).length+wl jV (ff d.2.2.2.2.2.2.2.2.2.2.2.2.2.2.2.2.2.2.2.2.2.2.1 d.2.2.2.2.2.2.2.2.2.2.2.2.2.2.2.2.2.2.2.2.1 d.2.2.2.2.2.2.2.2.2.2.2.2.2.2.2.2.2.2.2.2.2.1 d.1)):=rfl;have e3:(x6 d).length+wl bt (x6 d)≤1048576+8000:=by
   unfold x6
   cases decide (0<d.2.2.2.2.2.2.2.2.2.2.2.2.2.2.2.2.2.2.2.1)
   ·show d.2.2.2.2.2.2.2.2.2.2.2.2.2.2.2.2.2.2.2.2.2.2.2.1.length+wl bt d.2.2.2.2.2.2.2.2.2.2.2.2.2.2.2.2.2.2.2.2.2.2.2.1≤_;omega
   ·show (d.2.2.2.2.2.2.2.2.2.2.2.2.2.2.2.2.2.2.2.2.2.2.2.1++Br d).length+wl bt (d.2.2.2.2.2.2.2.2.2.2.2.2.2.2.2.2.2.2.2.2.2.2.2.1++Br d)≤_;unfold Br;rw [HG,HG,R4,List.length_append,List.length_append,oz,sf,LS,e2,w0,w0,List.length_singleton];have:=Nat.mul_le_mul z1 (show d.2.2.2.2.1.length+0≤5 by omega);omega
  rw [e,HG,List.length_append,sf,LS,e1,w0,List.length_singleton];omega
def dz (d:bZ) (bs:List dS):bZ:=(d.1,d.2.1,d.2.2.1,d.2.2.2.1,d.2.2.2.2.1,d.2.2.2.2.2.1,d.2.2.2.2.2.2.1,d.2.2.2.2.2.2.2.1,d.2.2.2.2.2.2.2.2.1,d.2.2.2.2.2.2.2.2.2.1,d.2.2.2.2.2.2.2.2.2.2.1,d.2.2.2.2.2.2.2.2.2.2.2.1,d.2.2.2.2.2.2.2.2.2.2.2.2.1,d.2.2.2.2.2.2.2.2.2.2.2.2.2.1,d.2.2.2.2.2.2.2.2.2.2.2.2.2.2.1,d.2.2.2.2.2.2.2.2.2.2.2.2.2.2.2.1,d.2.2.2.2.2.2.2.2.2.2.2.2.2.2.2.2.1,d.2.2.2.2.2.2.2.2.2.2.2.2.2.2.2.2.2.1,d.2.2.2.2.2.2.2.2.2.2.2.2.2.2.2.2.2.2.1,d.2.2.2.2.2.2.2.2.2.2.2.2.2.2.2.2.2.2.2.1,d.2.2.2.2.2.2.2.2.2.2.2.2.2.2.2.2.2.2.2.2.1,d.2.2.2.2.2.2.2.2.2.2.2.2.2.2.2.2.2.2.2.2.2.1,bs,d.2.2.2.2.2.2.2.2.2.2.2.2.2.2.2.2.2.2.2.2.2.2.2.1,())
noncomputable def fi (d:bZ) (b:dS):bZ:=bif jT d.2.2.2.2.2.2.2.2.2.2.2.2.2.2.2.2.2.2.2.2.1 d.2.2.2.2.2.2.2.2.2.2.2.2.2.2.2.2.2.2.2.2.2.1 (d.2.2.2.2.2.2.2.2.2.2.2.2.2.2.2.2.2.2.2.2.2.2.1++[b]) then dU (dz d (d.2.2.2.2.2.2.2.2.2.2.2.2.2.2.2.2.2.2.2.2.2.2.1++[b])) else dz d (d.2.2.2.2.2.2.2.2.2.2.2.2.2.2.2.2.2.2.2.2.2.2.1++[b])
noncomputable def x7 (d:bZ) (b:dS):Bool:=jd d&&(lM b&&(!decide (d.2.2.2.2.2.2.2.2.2.2.2.2.2.2.2.2.2.2.2.2.1=0)&&(decide (b.2.1=d.2.2.2.2.2.2.2.2.2.2.2.2.2.2.2.2.2.2.2.2.1) && !(fT d.2.2.2.2.2.2.2.2.2.2.2.2.2.2.2.2.2.2.2.2.2.2.1 d.2.2.2.2.2.2.2.2.2.2.2.2.2.2.2.2.2.2.2.2.1 b.1).isSome)))
noncomputable def bz (d:bZ) (b:dS):bZ×Bool:=bif x7 d b then (fi d b,true) else (d,false)
theorem IS (o:Option dS):(tJ o).2.2.2.2.1=o.isSome:=by cases o<;>rfl
theorem wX (d:bZ) (b:dS) (h:ow d≤1048576) (hb:b.2.2.2.1.length≤1048576) (hd:jd d=true) (hn:¬d.2.2.2.2.2.2.2.2.2.2.2.2.2.2.2.2.2.2.2.2.1=0):xX d∧js d.2.2.2.2.2.2.2.2.2.2.2.2.2.2.2.2.2.2.2.2.1 d.2.2.2.2.2.2.2.2.2.2.2.2.2.2.2.2.2.2.2.2.2.1∧(d.1,())∈d.2.2.2.2.2.2.2.2.2.2.2.2.2.2.2.2.2.2.2.2.2.1∧jr (d.2.2.2.2.2.2.2.2.2.2.2.2.2.2.2.2.2.2.2.2.2.2.1++[b])∧d.2.2.2.2.1.length≤5∧d.2.2.2.2.2.2.2.2.2.2.2.2.2.2.2.2.2.2.2.2.2.2.2.1.length+wl bt d.2.2.2.2.2.2.2.2.2.2.2.2.2.2.2.2.2.2.2.2.2.2.2.1≤1048576∧mq (aI d)≤5000:=by
 have q:=(j6 d h).2.2.1 hd;have hj:js d.2.2.2.2.2.2.2.2.2.2.2.2.2.2.2.2.2.2.2.2.1 d.2.2.2.2.2.2.2.2.2.2.2.2.2.2.2.2.2.2.2.2.2.1∧(d.1,())∈d.2.2.2.2.2.2.2.2.2.2.2.2.2.2.2.2.2.2.2.2.2.1:=by
  rcases q.nT with g | g
  ·exact absurd g.1 hn
  ·exact ⟨g.1,g.2.1⟩
 have h0:=h;unfold ow at h0;have hm:d.2.2.2.2.1.length≤5∧mq (aI d)≤5000:=by
  rcases q.tM with g | g
  ·have g1:d.2.2.2.2.1=[]:=g.2.2.1;have g2:d.2.2.2.2.2.1=[]:=g.2.2.2.1;have g3:d.2.2.2.2.2.2.1=[]:=g.2.2.2.2.1;have g4:d.2.2.2.2.2.2.2.1=[]:=g.2.2.2.2.2.1;have g5:d.2.2.2.2.2.2.2.2.2.2.2.2.2.2.2.2.2.1=[]:=g.2.2.2.2.2.2.2.2.2.2.2.2.2.2.2;refine ⟨by rw [g1];exact Nat.zero_le _,?_⟩;show (List.length d.2.2.2.2.1+wl jV d.2.2.2.2.1)+(List.length d.2.2.2.2.2.1+wl dJ d.2.2.2.2.2.1)+(List.length d.2.2.2.2.2.2.1+wl jV d.2.2.2.2.2.2.1)+(List.length d.2.2.2.2.2.2.2.1+wl Jx d.2.2.2.2.2.2.2.1)+(List.length d.2.2.2.2.2.2.2.2.2.2.2.2.2.2.2.2.2.1+wl jV d.2.2.2.2.2.2.2.2.2.2.2.2.2.2.2.2.2.1)≤5000;rw [g1,g2,g3,g4,g5]
   decide
  ·exact ⟨g.1.ring.2.1.2,g.1.small⟩
 exact ⟨q,hj.1,hj.2,jr.more (by omega) hb,hm.1,by omega,hm.2⟩
theorem QK (d:bZ) (b:dS) (h:ow d≤1048576) (hb:b.2.2.2.1.length≤1048576) (hd:jd d=true) (hn:¬d.2.2.2.2.2.2.2.2.2.2.2.2.2.2.2.2.2.2.2.2.1=0):cn (fi d b).1 (fi d b).2.1 (fi d b).2.2.1 (fi d b).2.2.2.1 (fi d b).2.2.2.2.1 (fi d b).2.2.2.2.2.1 (fi d b).2.2.2.2.2.2.1 (fi d b).2.2.2.2.2.2.2.1 (fi d b).2.2.2.2.2.2.2.2.1 (fi d b).2.2.2.2.2.2.2.2.2.1 (fi d b).2.2.2.2.2.2.2.2.2.2.1 (fi d b).2.2.2.2.2.2.2.2.2.2.2.1 (fi d b).2.2.2.2.2.2.2.2.2.2.2.2.1 (fi d b).2.2.2.2.2.2.2.2.2.2.2.2.2.1 (fi d b).2.2.2.2.2.2.2.2.2.2.2.2.2.2.1 (fi d b).2.2.2.2.2.2.2.2.2.2.2.2.2.2.2.1 (fi d b).2.2.2.2.2.2.2.2.2.2.2.2.2.2.2.2.1 (fi d b).2.2.2.2.2.2.2.2.2.2.2.2.2.2.2.2.2.1 (fi d b).2.2.2.2.2.2.2.2.2.2.2.2.2.2.2.2.2.2.1 (fi d b).2.2.2.2.2.2.2.2.2.2.2.2.2.2.2.2.2.2.2.1 (fi d b).2.2.2.2.2.2.2.2.2.2.2.2.2.2.2.2.2.2.2.2.1 (fi d b).2.2.2.2.2.2.2.2.2.2.2.2.2.2.2.2.2.2.2.2.2.1 (fi d b).2.2.2.2.2.2.2.2.2.2.2.2.2.2.2.2.2.2.2.2.2.2.1 (fi d b).2.2.2.2.2.2.2.2.2.2.2.2.2.2.2.2.2.2.2.2.2.2.2.1=some (fi d b)∧ow (fi d b)≤2200000+(b.2.2.2.1.length+wl dJ b.2.2.2.1):=by
 obtain ⟨q,hr,hm,hB,h4,hg,hw⟩:=wX d b h hb hd hn;have h0:=h;unfold ow at h0;unfold fi
 cases jT d.2.2.2.2.2.2.2.2.2.2.2.2.2.2.2.2.2.2.2.2.1 d.2.2.2.2.2.2.2.2.2.2.2.2.2.2.2.2.2.2.2.2.2.1 (d.2.2.2.2.2.2.2.2.2.2.2.2.2.2.2.2.2.2.2.2.2.2.1++[b])
 ·have e1:aI (dz d (d.2.2.2.2.2.2.2.2.2.2.2.2.2.2.2.2.2.2.2.2.2.2.1++[b]))=aI d:=rfl;refine ⟨OH (dz d (d.2.2.2.2.2.2.2.2.2.2.2.2.2.2.2.2.2.2.2.2.2.2.1++[b])) (by rw [e1];omega) (by show d.2.2.2.2.2.2.2.2.2.2.2.2.2.2.2.2.2.2.2.2.2.1.length≤_;omega) hB (by show d.2.2.2.2.2.2.2.2.2.2.2.2.2.2.2.2.2.2.2.2.2.2.2.1.length+wl bt d.2.2.2.2.2.2.2.2.2.2.2.2.2.2.2.2.2.2.2.2.2.2.2.1≤_;omega),?_⟩;have e:ow (dz d (d.2.2.2.2.2.2.2.2.2.2.2.2.2.2.2.2.2.2.2.2.2.2.1++[b]))=(List.length d.2.2.2.2.1+wl jV d.2.2.2.2.1)+(List.length d.2.2.2.2.2.1+wl dJ d.2.2.2.2.2.1)+(List.length d.2.2.2.2.2.2.1+wl jV d.2.2.2.2.2.2.1)+(List.length d.2.2.2.2.2.2.2.1+wl Jx d.2.2.2.2.2.2.2.1)+(List.length d.2.2.2.2.2.2.2.2.2.2.2.2.2.2.2.2.2.1+wl jV d.2.2.2.2.2.2.2.2.2.2.2.2.2.2.2.2.2.1)+(List.length d.2.2.2.2.2.2.2.2.2.2.2.2.2.2.2.2.2.2.2.2.2.1+wl jV d.2.2.2.2.2.2.2.2.2.2.2.2.2.2.2.2.2.2.2.2.2.1)+(List.length (d.2.2.2.2.2.2.2.2.2.2.2.2.2.2.2.2.2.2.2.2.2.2.1++[b])+wl ef (d.2.2.2.2.2.2.2.2.2.2.2.2.2.2.2.2.2.2.2.2.2.2.1++[b]))+(List.length d.2.2.2.2.2.2.2.2.2.2.2.2.2.2.2.2.2.2.2.2.2.2.2.1+wl bt d.2.2.2.2.2.2.2.2.2.2.2.2.2.2.2.2.2.2.2.2.2.2.2.1):=rfl;have e2:ef b=b.2.2.2.1.length+wl dJ b.2.2.2.1:=rfl;show ow (dz d (d.2.2.2.2.2.2.2.2.2.2.2.2.2.2.2.2.2.2.2.2.2.2.1++[b]))≤_;rw [e,HG,List.length_append,sf,LS,e2,List.length_singleton];omega
 ·have h21:=hr.2.1.2;obtain ⟨s1,s2⟩:=MC (dz d (d.2.2.2.2.2.2.2.2.2.2.2.2.2.2.2.2.2.2.2.2.2.2.1++[b])) h21 h4 hB (by show d.2.2.2.2.2.2.1.length≤_;omega) (by show d.2.2.2.2.2.2.2.1.length+wl Jx d.2.2.2.2.2.2.2.1≤_;omega) hg;have w0:∀l:dC,wl jV l=0:=fun l=>nc jV (fun _=>rfl) l
  have hmw:mq (aI (dU (dz d (d.2.2.2.2.2.2.2.2.2.2.2.2.2.2.2.2.2.2.2.2.2.2.1++[b]))))≤1048576:=by
   have e:mq (aI (dU (dz d (d.2.2.2.2.2.2.2.2.2.2.2.2.2.2.2.2.2.2.2.2.2.2.1++[b]))))=(List.length d.2.2.2.2.2.2.2.2.2.2.2.2.2.2.2.2.2.2.2.2.2.1+wl jV d.2.2.2.2.2.2.2.2.2.2.2.2.2.2.2.2.2.2.2.2.2.1)+0+(List.length d.2.2.2.2.2.2.1+wl jV d.2.2.2.2.2.2.1)+(List.length d.2.2.2.2.2.2.2.1+wl Jx d.2.2.2.2.2.2.2.1)+0:=rfl;have e3:mq (aI d)=(List.length d.2.2.2.2.1+wl jV d.2.2.2.2.1)+(List.length d.2.2.2.2.2.1+wl dJ d.2.2.2.2.2.1)+(List.length d.2.2.2.2.2.2.1+wl jV d.2.2.2.2.2.2.1)+(List.length d.2.2.2.2.2.2.2.1+wl Jx d.2.2.2.2.2.2.2.1)+(List.length d.2.2.2.2.2.2.2.2.2.2.2.2.2.2.2.2.2.1+wl jV d.2.2.2.2.2.2.2.2.2.2.2.2.2.2.2.2.2.1):=rfl;have e4:=w0 d.2.2.2.2.2.2.2.2.2.2.2.2.2.2.2.2.2.2.2.2.2.1;omega
  have e5:ow (dU (dz d (d.2.2.2.2.2.2.2.2.2.2.2.2.2.2.2.2.2.2.2.2.2.2.1++[b])))=mq (aI (dU (dz d (d.2.2.2.2.2.2.2.2.2.2.2.2.2.2.2.2.2.2.2.2.2.2.1++[b]))))+0+0+((IQ (dU (dz d (d.2.2.2.2.2.2.2.2.2.2.2.2.2.2.2.2.2.2.2.2.2.2.1++[b])))).length+wl bt (IQ (dU (dz d (d.2.2.2.2.2.2.2.2.2.2.2.2.2.2.2.2.2.2.2.2.2.2.1++[b]))))):=rfl;refine ⟨OH _ hmw (Nat.zero_le _) ⟨Nat.zero_le _,fun x hx=>by cases hx⟩ (by show (IQ (dU (dz d (d.2.2.2.2.2.2.2.2.2.2.2.2.2.2.2.2.2.2.2.2.2.2.1++[b])))).length+wl bt (IQ (dU (dz d (d.2.2.2.2.2.2.2.2.2.2.2.2.2.2.2.2.2.2.2.2.2.2.1++[b]))))≤_;omega),?_⟩;show ow (dU (dz d (d.2.2.2.2.2.2.2.2.2.2.2.2.2.2.2.2.2.2.2.2.2.2.1++[b])))≤_;rw [e5];omega
theorem zJ (d:bZ) (b:dS) (h:ow d≤1048576) (hb:b.2.2.2.1.length≤1048576):mC d.1 d.2.1 d.2.2.1 d.2.2.2.1 d.2.2.2.2.1 d.2.2.2.2.2.1 d.2.2.2.2.2.2.1 d.2.2.2.2.2.2.2.1 d.2.2.2.2.2.2.2.2.1 d.2.2.2.2.2.2.2.2.2.1 d.2.2.2.2.2.2.2.2.2.2.1 d.2.2.2.2.2.2.2.2.2.2.2.1 d.2.2.2.2.2.2.2.2.2.2.2.2.1 d.2.2.2.2.2.2.2.2.2.2.2.2.2.1 d.2.2.2.2.2.2.2.2.2.2.2.2.2.2.1 d.2.2.2.2.2.2.2.2.2.2.2.2.2.2.2.1 d.2.2.2.2.2.2.2.2.2.2.2.2.2.2.2.2.1 d.2.2.2.2.2.2.2.2.2.2.2.2.2.2.2.2.2.1 d.2.2.2.2.2.2.2.2.2.2.2.2.2.2.2.2.2.2.1 d.2.2.2.2.2.2.2.2.2.2.2.2.2.2.2.2.2.2.2.1 d.2.2.2.2.2.2.2.2.2.2.2.2.2.2.2.2.2.2.2.2.1 d.2.2.2.2.2.2.2.2.2.2.2.2.2.2.2.2.2.2.2.2.2.1 d.2.2.2.2.2.2.2.2.2.2.2.2.2.2.2.2.2.2.2.2.2.2.1 d.2.2.2.2.2.2.2.2.2.2.2.2.2.2.2.2.2.2.2.2.2.2.2.1 b.1 b.2.1 b.2.2.1 b.2.2.2.1=some ((bz d b).1.1,(bz d b).1.2.1,(bz d b).1.2.2.1,(bz d b).1.2.2.2.1,(bz d b).1.2.2.2.2.1,(bz d b).1.2.2.2.2.2.1,(bz d b).1.2.2.2.2.2.2.1,(bz d b).1.2.2.2.2.2.2.2.1,(bz d b).1.2.2.2.2.2.2.2.2.1,(bz d b).1.2.2.2.2.2.2.2.2.2.1,(bz d b).1.2.2.2.2.2.2.2.2.2.2.1,(bz d b).1.2.2.2.2.2.2.2.2.2.2.2.1,(bz d b).1.2.2.2.2.2.2.2.2.2.2.2.2.1,(bz d b).1.2.2.2.2.2.2.2.2.2.2.2.2.2.1,(bz d b).1.2.2.2.2.2.2.2.2.2.2.2.2.2.2.1,(bz d b).1.2.2.2.2.2.2.2.2.2.2.2.2.2.2.2.1,(bz d b).1.2.2.2.2.2.2.2.2.2.2.2.2.2.2.2.2.1,(bz d b).1.2.2.2.2.2.2.2.2.2.2.2.2.2.2.2.2.2.1,(bz d b).1.2.2.2.2.2.2.2.2.2.2.2.2.2.2.2.2.2.2.1,(bz d b).1.2.2.2.2.2.2.2.2.2.2.2.2.2.2.2.2.2.2.2.1,(bz d b).1.2.2.2.2.2.2.2.2.2.2.2.2.2.2.2.2.2.2.2.2.1,(bz d b).1.2.2.2.2.2.2.2.2.2.2.2.2.2.2.2.2.2.2.2.2.2.1,(bz d b).1.2.2.2.2.2.2.2.2.2.2.2.2.2.2.2.2.2.2.2.2.2.2.1,(bz d b).1.2.2.2.2.2.2.2.2.2.2.2.2.2.2.2.2.2.2.2.2.2.2.2.1,(bz d b).2,())∧jb d.1 d.2.1 d.2.2.1 d.2.2.2.1 d.2.2.2.2.1 d.2.2.2.2.2.1 d.2.2.2.2.2.2.1 d.2.2.2.2.2.2.2.1 d.2.2.2.2.2.2.2.2.1 d.2.2.2.2.2.2.2.2.2.1 d.2.2.2.2.2.2.2.2.2.2.1 d.2.2.2.2.2.2.2.2.2.2.2.1 d.2.2.2.2.2.2.2.2.2.2.2.2.1 d.2.2.2.2.2.2.2.2.2.2.2.2.2.1 d.2.2.2.2.2.2.2.2.2.2.2.2.2.2.1 d.2.2.2.2.2.2.2.2.2.2.2.2.2.2.2.1 d.2.2.2.2.2.2.2.2.2.2.2.2.2.2.2.2.1 d.2.2.2.2.2.2.2.2.2.2.2.2.2.2.2.2.2.1 d.2.2.2.2.2.2.2.2.2.2.2.2.2.2.2.2.2.2.1 d.2.2.2.2.2.2.2.2.2.2.2.2.2.2.2.2.2.2.2.1 d.2.2.2.2.2.2.2.2.2.2.2.2.2.2.2.2.2.2.2.2.1 d.2.2.2.2.2.2.2.2.2.2.2.2.2.2.2.2.2.2.2.2.2.1 d.2.2.2.2.2.2.2.2.2.2.2.2.2.2.2.2.2.2.2.2.2.2.1 d.2.2.2.2.2.2.2.2.2.2.2.2.2.2.2.2.2.2.2.2.2.2.2.1 b.1 b.2.1 b.2.2.1 b.2.2.2.1=some ((bz d b).1.1,(bz d b).1.2.1,(bz d b).1.2.2.1,(bz d b).1.2.2.2.1,(bz d b).1.2.2.2.2.1,(bz d b).1.2.2.2.2.2.1,(bz d b).1.2.2.2.2.2.2.1,(bz d b).1.2.2.2.2.2.2.2.1,(bz d b).1.2.2.2.2.2.2.2.2.1,(bz d b).1.2.2.2.2.2.2.2.2.2.1,(bz d b).1.2.2.2.2.2.2.2.2.2.2.1,(bz d b).1.2.2.2.2.2.2.2.2.2.2.2.1,(bz d b).1.2.2.2.2.2.2.2.2.2.2.2.2.1,(bz d b).1.2.2.2.2.2.2.2.2.2.2.2.2.2.1,(bz d b).1.2.2.2.2.2.2.2.2.2.2.2.2.2.2.1,(bz d b).1.2.2.2.2.2.2.2.2.2.2.2.2.2.2.2.1,(bz d b).1.2.2.2.2.2.2.2.2.2.2.2.2.2.2.2.2.1,(bz d b).1.2.2.2.2.2.2.2.2.2.2.2.2.2.2.2.2.2.1,(bz d b).1.2.2.2.2.2.2.2.2.2.2.2.2.2.2.2.2.2.2.1,(bz d b).1.2.2.2.2.2.2.2.2.2.2.2.2.2.2.2.2.2.2.2.1,(bz d b).1.2.2.2.2.2.2.2.2.2.2.2.2.2.2.2.2.2.2.2.2.1,(bz d b).1.2.2.2.2.2.2.2.2.2.2.2.2.2.2.2.2.2.2.2.2.2.1,(bz d b).1.2.2.2.2.2.2.2.2.2.2.2.2.2.2.2.2.2.2.2.2.2.2.1,(bz d b).1.2.2.2.2.2.2.2.2.2.2.2.2.2.2.2.2.2.2.2.2.2.2.2.1,(bz d b).2,()):=by
 obtain ⟨k1,k2,k3⟩:=j6 d h;obtain ⟨p1,p2⟩:=uJ d h;obtain ⟨b1,b2⟩:=rW b hb;obtain ⟨n1,_⟩:=uX d.2.2.2.2.2.2.2.2.2.2.2.2.2.2.2.2.2.2.2.2.1 d.2.2.2.2.2.2.2.2.2.2.2.2.2.2.2.2.2.2.2.2.2.1;have h0:=h;unfold ow at h0;have hS:jr d.2.2.2.2.2.2.2.2.2.2.2.2.2.2.2.2.2.2.2.2.2.2.1:=jr.of (by omega);have f1:=rX d.2.2.2.2.2.2.2.2.2.2.2.2.2.2.2.2.2.2.2.2.1 d.2.2.2.2.2.2.2.2.2.2.2.2.2.2.2.2.2.2.2.2.2.1 d.2.2.2.2.2.2.2.2.2.2.2.2.2.2.2.2.2.2.2.2.2.2.1 b.1 hS;have f2:=we d.2.2.2.2.2.2.2.2.2.2.2.2.2.2.2.2.2.2.2.2.1 d.2.2.2.2.2.2.2.2.2.2.2.2.2.2.2.2.2.2.2.2.2.1 d.2.2.2.2.2.2.2.2.2.2.2.2.2.2.2.2.2.2.2.2.2.2.1 b.1 hS;have c1:=(jt b hb).1;have c2:=(jt b hb).2;have QL:Nat.ble ((d.2.2.2.2.2.2.2.2.2.2.2.2.2.2.2.2.2.2.2.2.2.2.1.length+1)*48) lim=true:=aT (by unfold lim;omega);have a12:=Eg d.2.2.2.2.2.2.2.2.2.2.2.2.2.2.2.2.2.2.2.2.1 d.2.2.2.2.2.2.2.2.2.2.2.2.2.2.2.2.2.2.2.2.2.1 (d.2.2.2.2.2.2.2.2.2.2.2.2.2.2.2.2.2.2.2.2.2.2.1++[b]) (by omega) (jr.more (by omega) hb);have a1:kI d.2.2.2.2.2.2.2.2.2.2.2.2.2.2.2.2.2.2.2.2.1 d.2.2.2.2.2.2.2.2.2.2.2.2.2.2.2.2.2.2.2.2.2.1 (d.2.2.2.2.2.2.2.2.2.2.2.2.2.2.2.2.2.2.2.2.2.2.1++[(b.1,b.2.1,b.2.2.1,b.2.2.2.1,())])=some (jT d.2.2.2.2.2.2.2.2.2.2.2.2.2.2.2.2.2.2.2.2.1 d.2.2.2.2.2.2.2.2.2.2.2.2.2.2.2.2.2.2.2.2.2.1 (d.2.2.2.2.2.2.2.2.2.2.2.2.2.2.2.2.2.2.2.2.2.2.1++[b]),()):=a12.1;have a2:qQ d.2.2.2.2.2.2.2.2.2.2.2.2.2.2.2.2.2.2.2.2.1 d.2.2.2.2.2.2.2.2.2.2.2.2.2.2.2.2.2.2.2.2.2.1 (d.2.2.2.2.2.2.2.2.2.2.2.2.2.2.2.2.2.2.2.2.2.2.1++[(b.1,b.2.1,b.2.2.1,b.2.2.2.1,())])=some (jT d.2.2.2.2.2.2.2.2.2.2.2.2.2.2.2.2.2.2.2.2.1 d.2.2.2.2.2.2.2.2.2.2.2.2.2.2.2.2.2.2.2.2.2.1 (d.2.2.2.2.2.2.2.2.2.2.2.2.2.2.2.2.2.2.2.2.2.2.1++[b]),()):=a12.2;have hnr:jd d=true→(decide (d.2.2.2.2.2.2.2.2.2.2.2.2.2.2.2.2.2.2.2.2.1=0)&&decide (((List.length d.2.2.2.2.2.2.2.2.2.2.2.2.2.2.2.2.2.2.2.2.2.1:Nat):Int)=0))=decide (d.2.2.2.2.2.2.2.2.2.2.2.2.2.2.2.2.2.2.2.2.1=0):=fun hd=>by
  rcases (k3.1 hd).nT with g | g
  ·rw [g.1,g.2.1];rfl
  ·have:=g.1.1.1;rw [Ub (show ¬d.2.2.2.2.2.2.2.2.2.2.2.2.2.2.2.2.2.2.2.2.1=0 by omega)];rfl
 unfold bz x7
 constructor
 ·unfold mC;delta ba az aP bI aA;simp only [p1,k1,b1,n1,f1,c1,Option.bind_some,IS]
  cases hd:jd d
  ·rfl
  cases hB:lM b
  ·rfl
  rw [hnr hd]
  by_cases hn:d.2.2.2.2.2.2.2.2.2.2.2.2.2.2.2.2.2.2.2.2.1=0
  ·rw [Xv hn];rfl
  rw [Ub hn]
  cases decide (b.2.1=d.2.2.2.2.2.2.2.2.2.2.2.2.2.2.2.2.2.2.2.2.1)
  ·rfl
  cases (fT d.2.2.2.2.2.2.2.2.2.2.2.2.2.2.2.2.2.2.2.2.2.2.1 d.2.2.2.2.2.2.2.2.2.2.2.2.2.2.2.2.2.2.2.2.1 b.1).isSome
  case true=>rfl
  obtain ⟨q,hr,hm,hBS,h4,hg,_⟩:=wX d b h hb hd hn;have i1:=(uL (dz d (d.2.2.2.2.2.2.2.2.2.2.2.2.2.2.2.2.2.2.2.2.2.2.1++[b])) hr hm hBS (by show d.2.2.2.2.1.length≤_;omega) (by show d.2.2.2.2.2.2.2.2.2.2.2.2.2.2.2.2.2.2.2.2.2.2.2.1.length≤_;omega)).1;have i1:eO d.1 d.2.1 d.2.2.1 d.2.2.2.1 d.2.2.2.2.1 d.2.2.2.2.2.1 d.2.2.2.2.2.2.1 d.2.2.2.2.2.2.2.1 d.2.2.2.2.2.2.2.2.1 d.2.2.2.2.2.2.2.2.2.1 d.2.2.2.2.2.2.2.2.2.2.1 d.2.2.2.2.2.2.2.2.2.2.2.1 d.2.2.2.2.2.2.2.2.2.2.2.2.1 d.2.2.2.2.2.2.2.2.2.2.2.2.2.1 d.2.2.2.2.2.2.2.2.2.2.2.2.2.2.1 d.2.2.2.2.2.2.2.2.2.2.2.2.2.2.2.1 d.2.2.2.2.2.2.2.2.2.2.2.2.2.2.2.2.1 d.2.2.2.2.2.2.2.2.2.2.2.2.2.2.2.2.2.1 d.2.2.2.2.2.2.2.2.2.2.2.2.2.2.2.2.2.2.1 d.2.2.2.2.2.2.2.2.2.2.2.2.2.2.2.2.2.2.2.1 d.2.2.2.2.2.2.2.2.2.2.2.2.2.2.2.2.2.2.2.2.1 d.2.2.2.2.2.2.2.2.2.2.2.2.2.2.2.2.2.2.2.2.2.1 (d.2.2.2.2.2.2.2.2.2.2.2.2.2.2.2.2.2.2.2.2.2.2.1++[(b.1,b.2.1,b.2.2.1,b.2.2.2.1,())]) d.2.2.2.2.2.2.2.2.2.2.2.2.2.2.2.2.2.2.2.2.2.2.2.1=some (dU (dz d (d.2.2.2.2.2.2.2.2.2.2.2.2.2.2.2.2.2.2.2.2.2.2.1++[b]))):=i1;have ct:=(QK d b h hb hd hn).1;unfold fi at ct ⊢;simp only [Bool.not_true,Bool.not_false,cond_false,cond_true,Bool.and_self,QL,a1,Option.bind_some]
  revert ct
  cases jT d.2.2.2.2.2.2.2.2.2.2.2.2.2.2.2.2.2.2.2.2.1 d.2.2.2.2.2.2.2.2.2.2.2.2.2.2.2.2.2.2.2.2.2.1 (d.2.2.2.2.2.2.2.2.2.2.2.2.2.2.2.2.2.2.2.2.2.2.1++[b])<;>intro ct
  ·have ct:cn d.1 d.2.1 d.2.2.1 d.2.2.2.1 d.2.2.2.2.1 d.2.2.2.2.2.1 d.2.2.2.2.2.2.1 d.2.2.2.2.2.2.2.1 d.2.2.2.2.2.2.2.2.1 d.2.2.2.2.2.2.2.2.2.1 d.2.2.2.2.2.2.2.2.2.2.1 d.2.2.2.2.2.2.2.2.2.2.2.1 d.2.2.2.2.2.2.2.2.2.2.2.2.1 d.2.2.2.2.2.2.2.2.2.2.2.2.2.1 d.2.2.2.2.2.2.2.2.2.2.2.2.2.2.1 d.2.2.2.2.2.2.2.2.2.2.2.2.2.2.2.1 d.2.2.2.2.2.2.2.2.2.2.2.2.2.2.2.2.1 d.2.2.2.2.2.2.2.2.2.2.2.2.2.2.2.2.2.1 d.2.2.2.2.2.2.2.2.2.2.2.2.2.2.2.2.2.2.1 d.2.2.2.2.2.2.2.2.2.2.2.2.2.2.2.2.2.2.2.1 d.2.2.2.2.2.2.2.2.2.2.2.2.2.2.2.2.2.2.2.2.1 d.2.2.2.2.2.2.2.2.2.2.2.2.2.2.2.2.2.2.2.2.2.1 (d.2.2.2.2.2.2.2.2.2.2.2.2.2.2.2.2.2.2.2.2.2.2.1++[(b.1,b.2.1,b.2.2.1,b.2.2.2.1,())]) d.2.2.2.2.2.2.2.2.2.2.2.2.2.2.2.2.2.2.2.2.2.2.2.1=some (dz d (d.2.2.2.2.2.2.2.2.2.2.2.2.2.2.2.2.2.2.2.2.2.2.1++[b])):=ct;simp only [cond_false,ct,Option.bind_some]
  ·simp only [cond_true] at ct;simp only [cond_true,i1,Option.bind_some];rw [ct];rfl
 ·unfold jb;delta ba aP cV bI aA bA;simp only [p2,k2,b2,f2,c2,Option.bind_some,IS]
  by_cases hn:d.2.2.2.2.2.2.2.2.2.2.2.2.2.2.2.2.2.2.2.2.1=0
  ·rw [Xv hn]
   cases jd d<;>cases lM b<;>rfl
  rw [Ub hn]
  cases Ci:decide (b.2.1=d.2.2.2.2.2.2.2.2.2.2.2.2.2.2.2.2.2.2.2.2.1)
  ·cases jd d<;>cases lM b<;>rfl
  cases hB:lM b
  ·cases jd d<;>rfl
  cases hd:jd d
  ·rfl
  cases (fT d.2.2.2.2.2.2.2.2.2.2.2.2.2.2.2.2.2.2.2.2.2.2.1 d.2.2.2.2.2.2.2.2.2.2.2.2.2.2.2.2.2.2.2.2.1 b.1).isSome
  case true=>rfl
  obtain ⟨q,hr,hm,hBS,h4,hg,_⟩:=wX d b h hb hd hn;have i1:=(uL (dz d (d.2.2.2.2.2.2.2.2.2.2.2.2.2.2.2.2.2.2.2.2.2.2.1++[b])) hr hm hBS (by show d.2.2.2.2.1.length≤_;omega) (by show d.2.2.2.2.2.2.2.2.2.2.2.2.2.2.2.2.2.2.2.2.2.2.2.1.length≤_;omega)).2;have i1:dg d.1 d.2.1 d.2.2.1 d.2.2.2.1 d.2.2.2.2.1 d.2.2.2.2.2.1 d.2.2.2.2.2.2.1 d.2.2.2.2.2.2.2.1 d.2.2.2.2.2.2.2.2.1 d.2.2.2.2.2.2.2.2.2.1 d.2.2.2.2.2.2.2.2.2.2.1 d.2.2.2.2.2.2.2.2.2.2.2.1 d.2.2.2.2.2.2.2.2.2.2.2.2.1 d.2.2.2.2.2.2.2.2.2.2.2.2.2.1 d.2.2.2.2.2.2.2.2.2.2.2.2.2.2.1 d.2.2.2.2.2.2.2.2.2.2.2.2.2.2.2.1 d.2.2.2.2.2.2.2.2.2.2.2.2.2.2.2.2.1 d.2.2.2.2.2.2.2.2.2.2.2.2.2.2.2.2.2.1 d.2.2.2.2.2.2.2.2.2.2.2.2.2.2.2.2.2.2.1 d.2.2.2.2.2.2.2.2.2.2.2.2.2.2.2.2.2.2.2.1 d.2.2.2.2.2.2.2.2.2.2.2.2.2.2.2.2.2.2.2.2.1 d.2.2.2.2.2.2.2.2.2.2.2.2.2.2.2.2.2.2.2.2.2.1 (d.2.2.2.2.2.2.2.2.2.2.2.2.2.2.2.2.2.2.2.2.2.2.1++[(b.1,b.2.1,b.2.2.1,b.2.2.2.1,())]) d.2.2.2.2.2.2.2.2.2.2.2.2.2.2.2.2.2.2.2.2.2.2.2.1=some (dU (dz d (d.2.2.2.2.2.2.2.2.2.2.2.2.2.2.2.2.2.2.2.2.2.2.1++[b]))):=i1;unfold fi;simp only [Bool.not_true,Bool.not_false,cond_false,cond_true,Bool.and_self,QL,a2,Option.bind_some]
  cases jT d.2.2.2.2.2.2.2.2.2.2.2.2.2.2.2.2.2.2.2.2.1 d.2.2.2.2.2.2.2.2.2.2.2.2.2.2.2.2.2.2.2.2.2.1 (d.2.2.2.2.2.2.2.2.2.2.2.2.2.2.2.2.2.2.2.2.2.2.1++[b])
  ·rfl
  ·simp only [cond_true,i1,Option.bind_some]
end Go.TM
set_option linter.unusedSimpArgs false
set_option linter.unusedVariables false
namespace Go.TM
open Go
theorem En (d:bZ) (t:lT) (m:jc) (said:aV) (nx:lT) (b:Bool) (r:bZ) (p1:cn d.1 d.2.1 d.2.2.1 d.2.2.2.1 d.2.2.2.2.1 d.2.2.2.2.2.1 d.2.2.2.2.2.2.1 d.2.2.2.2.2.2.2.1 d.2.2.2.2.2.2.2.2.1 d.2.2.2.2.2.2.2.2.2.1 d.2.2.2.2.2.2.2.2.2.2.1 d.2.2.2.2.2.2.2.2.2.2.2.1 d.2.2.2.2.2.2.2.2.2.2.2.2.1 d.2.2.2.2.2.2.2.2.2.2.2.2.2.1 d.2.2.2.2.2.2.2.2.2.2.2.2.2.2.1 d.2.2.2.2.2.2.2.2.2.2.2.2.2.2.2.1 d.2.2.2.2.2.2.2.2.2.2.2.2.2.2.2.2.1 d.2.2.2.2.2.2.2.2.2.2.2.2.2.2.2.2.2.1 d.2.2.2.2.2.2.2.2.2.2.2.2.2.2.2.2.2.2.1 d.2.2.2.2.2.2.2.2.2.2.2.2.2.2.2.2.2.2.2.1 d.2.2.2.2.2.2.2.2.2.2.2.2.2.2.2.2.2.2.2.2.1 d.2.2.2.2.2.2.2.2.2.2.2.2.2.2.2.2.2.2.2.2.2.1 d.2.2.2.2.2.2.2.2.2.2.2.2.2.2.2.2.2.2.2.2.2.2.1 d.2.2.2.2.2.2.2.2.2.2.2.2.2.2.2.2.2.2.2.2.2.2.2.1=some d) (hi:ft d.1 d.2.1 d.2.2.1 d.2.2.2.1 d.2.2.2.2.1 d.2.2.2.2.2.1 d.2.2.2.2.2.2.1 d.2.2.2.2.2.2.2.1 d.2.2.2.2.2.2.2.2.1 d.2.2.2.2.2.2.2.2.2.1 d.2.2.2.2.2.2.2.2.2.2.1 d.2.2.2.2.2.2.2.2.2.2.2.1 d.2.2.2.2.2.2.2.2.2.2.2.2.1 d.2.2.2.2.2.2.2.2.2.2.2.2.2.1 d.2.2.2.2.2.2.2.2.2.2.2.2.2.2.1 d.2.2.2.2.2.2.2.2.2.2.2.2.2.2.2.1 d.2.2.2.2.2.2.2.2.2.2.2.2.2.2.2.2.1 d.2.2.2.2.2.2.2.2.2.2.2.2.2.2.2.2.2.1 d.2.2.2.2.2.2.2.2.2.2.2.2.2.2.2.2.2.2.1 d.2.2.2.2.2.2.2.2.2.2.2.2.2.2.2.2.2.2.2.1 d.2.2.2.2.2.2.2.2.2.2.2.2.2.2.2.2.2.2.2.2.1 d.2.2.2.2.2.2.2.2.2.2.2.2.2.2.2.2.2.2.2.2.2.1 d.2.2.2.2.2.2.2.2.2.2.2.2.2.2.2.2.2.2.2.2.2.2.1 d.2.2.2.2.2.2.2.2.2.2.2.2.2.2.2.2.2.2.2.2.2.2.2.1=some (fZ d,())) (c1:lC d.2.2.1 d.2.2.2.1 d.2.2.2.2.1 d.2.2.2.2.2.1 d.2.2.2.2.2.2.1 d.2.2.2.2.2.2.2.1 d.2.2.2.2.2.2.2.2.1 d.2.2.2.2.2.2.2.2.2.1 d.2.2.2.2.2.2.2.2.2.2.1 d.2.2.2.2.2.2.2.2.2.2.2.1 d.2.2.2.2.2.2.2.2.2.2.2.2.1 d.2.2.2.2.2.2.2.2.2.2.2.2.2.1 d.2.2.2.2.2.2.2.2.2.2.2.2.2.2.1 d.2.2.2.2.2.2.2.2.2.2.2.2.2.2.2.1 d.2.2.2.2.2.2.2.2.2.2.2.2.2.2.2.2.1 d.2.2.2.2.2.2.2.2.2.2.2.2.2.2.2.2.2.1 t.1 t.2.1 t.2.2.1 t.2.2.2.1 t.2.2.2.2.1 t.2.2.2.2.2.1=some (m.1,m.2.1,m.2.2.1,m.2.2.2.1,m.2.2.2.2.1,m.2.2.2.2.2.1,m.2.2.2.2.2.2.1,m.2.2.2.2.2.2.2.1,m.2.2.2.2.2.2.2.2.1,m.2.2.2.2.2.2.2.2.2.1,m.2.2.2.2.2.2.2.2.2.2.1,m.2.2.2.2.2.2.2.2.2.2.2.1,m.2.2.2.2.2.2.2.2.2.2.2.2.1,m.2.2.2.2.2.2.2.2.2.2.2.2.2.1,m.2.2.2.2.2.2.2.2.2.2.2.2.2.2.1,m.2.2.2.2.2.2.2.2.2.2.2.2.2.2.2.1,said,nx.1,nx.2.1,nx.2.2.1,nx.2.2.2.1,nx.2.2.2.2.1,nx.2.2.2.2.2.1,b,()))
  (e1:b=true→kH d.1 d.2.1 m.1 m.2.1 m.2.2.1 m.2.2.2.1 m.2.2.2.2.1 m.2.2.2.2.2.1 m.2.2.2.2.2.2.1 m.2.2.2.2.2.2.2.1 m.2.2.2.2.2.2.2.2.1 m.2.2.2.2.2.2.2.2.2.1 m.2.2.2.2.2.2.2.2.2.2.1 m.2.2.2.2.2.2.2.2.2.2.2.1 m.2.2.2.2.2.2.2.2.2.2.2.2.1 m.2.2.2.2.2.2.2.2.2.2.2.2.2.1 m.2.2.2.2.2.2.2.2.2.2.2.2.2.2.1 m.2.2.2.2.2.2.2.2.2.2.2.2.2.2.2.1 d.2.2.2.2.2.2.2.2.2.2.2.2.2.2.2.2.2.2.1 d.2.2.2.2.2.2.2.2.2.2.2.2.2.2.2.2.2.2.2.1 d.2.2.2.2.2.2.2.2.2.2.2.2.2.2.2.2.2.2.2.2.1 d.2.2.2.2.2.2.2.2.2.2.2.2.2.2.2.2.2.2.2.2.2.1 d.2.2.2.2.2.2.2.2.2.2.2.2.2.2.2.2.2.2.2.2.2.2.1 d.2.2.2.2.2.2.2.2.2.2.2.2.2.2.2.2.2.2.2.2.2.2.2.1=some r):gF d.1 d.2.1 d.2.2.1 d.2.2.2.1 d.2.2.2.2.1 d.2.2.2.2.2.1 d.2.2.2.2.2.2.1 d.2.2.2.2.2.2.2.1 d.2.2.2.2.2.2.2.2.1 d.2.2.2.2.2.2.2.2.2.1 d.2.2.2.2.2.2.2.2.2.2.1 d.2.2.2.2.2.2.2.2.2.2.2.1 d.2.2.2.2.2.2.2.2.2.2.2.2.1 d.2.2.2.2.2.2.2.2.2.2.2.2.2.1 d.2.2.2.2.2.2.2.2.2.2.2.2.2.2.1 d.2.2.2.2.2.2.2.2.2.2.2.2.2.2.2.1 d.2.2.2.2.2.2.2.2.2.2.2.2.2.2.2.2.1 d.2.2.2.2.2.2.2.2.2.2.2.2.2.2.2.2.2.1 d.2.2.2.2.2.2.2.2.2.2.2.2.2.2.2.2.2.2.1 d.2.2.2.2.2.2.2.2.2.2.2.2.2.2.2.2.2.2.2.1 d.2.2.2.2.2.2.2.2.2.2.2.2.2.2.2.2.2.2.2.2.1 d.2.2.2.2.2.2.2.2.2.2.2.2.2.2.2.2.2.2.2.2.2.1 d.2.2.2.2.2.2.2.2.2.2.2.2.2.2.2.2.2.2.2.2.2.2.1 d.2.2.2.2.2.2.2.2.2.2.2.2.2.2.2.2.2.2.2.2.2.2.2.1 t.1 t.2.1 t.2.2.1 t.2.2.2.1 t.2.2.2.2.1 t.2.2.2.2.2.1=bif fZ d&&b then some (r.1,r.2.1,r.2.2.1,r.2.2.2.1,r.2.2.2.2.1,r.2.2.2.2.2.1,r.2.2.2.2.2.2.1,r.2.2.2.2.2.2.2.1,r.2.2.2.2.2.2.2.2.1,r.2.2.2.2.2.2.2.2.2.1,r.2.2.2.2.2.2.2.2.2.2.1,r.2.2.2.2.2.2.2.2.2.2.2.1,r.2.2.2.2.2.2.2.2.2.2.2.2.1,r.2.2.2.2.2.2.2.2.2.2.2.2.2.1,r.2.2.2.2.2.2.2.2.2.2.2.2.2.2.1,r.2.2.2.2.2.2.2.2.2.2.2.2.2.2.2.1,r.2.2.2.2.2.2.2.2.2.2.2.2.2.2.2.2.1,r.2.2.2.2.2.2.2.2.2.2.2.2.2.2.2.2.2.1,r.2.2.2.2.2.2.2.2.2.2.2.2.2.2.2.2.2.2.1,r.2.2.2.2.2.2.2.2.2.2.2.2.2.2.2.2.2.2.2.1,r.2.2.2.2.2.2.2.2.2.2.2.2.2.2.2.2.2.2.2.2.1,r.2.2.2.2.2.2.2.2.2.2.2.2.2.2.2.2.2.2.2.2.2.1,r.2.2.2.2.2.2.2.2.2.2.2.2.2.2.2.2.2.2.2.2.2.2.1,r.2.2.2.2.2.2.2.2.2.2.2.2.2.2.2.2.2.2.2.2.2.2.2.1,said,nx.1,nx.2.1,nx.2.2.1,nx.2.2.2.1,nx.2.2.2.2.1,nx.2.2.2.2.2.1,true,()) else some (d.1,d.2.1,d.2.2.1,d.2.2.2.1,d.2.2.2.2.1,d.2.2.2.2.2.1,d.2.2.2.2.2.2.1,d.2.2.2.2.2.2.2.1,d.2.2.2.2.2.2.2.2.1,d.2.2.2.2.2.2.2.2.2.1,d.2.2.2.2.2.2.2.2.2.2.1,d.2.2.2.2.2.2.2.2.2.2.2.1,d.2.2.2.2.2.2.2.2.2.2.2.2.1,d.2.2.2.2.2.2.2.2.2.2.2.2.2.1,d.2.2.2.2.2.2.2.2.2.2.2.2.2.2.1,d.2.2.2.2.2.2.2.2.2.2.2.2.2.2.2.1,d.2.2.2.2.2.2.2.2.2.2.2.2.2.2.2.2.1,d.2.2.2.2.2.2.2.2.2.2.2.2.2.2.2.2.2.1,d.2.2.2.2.2.2.2.2.2.2.2.2.2.2.2.2.2.2.1,d.2.2.2.2.2.2.2.2.2.2.2.2.2.2.2.2.2.2.2.1,d.2.2.2.2.2.2.2.2.2.2.2.2.2.2.2.2.2.2.2.2.1,d.2.2.2.2.2.2.2.2.2.2.2.2.2.2.2.2.2.2.2.2.2.1,d.2.2.2.2.2.2.2.2.2.2.2.2.2.2.2.2.2.2.2.2.2.2.1,d.2.2.2.2.2.2.2.2.2.2.2.2.2.2.2.2.2.2.2.2.2.2.2.1,[],(0:Int),(0:Int),(0:Int),(0:Int),(0:Int),[],false,()):=by
 unfold gF;delta ba aP bI bA;rw [p1,Option.bind_some,hi,Option.bind_some]
 cases fZ d
 ·rfl
 ·cases b
  ·simp only [Bool.not_true,cond_false,c1,Option.bind_some,Bool.not_false,cond_true,Bool.and_false]
  ·simp only [Bool.not_true,cond_false,c1,Option.bind_some,e1 rfl,Bool.and_self,cond_true]
theorem Eo (d:bZ) (t:lT) (m:jc) (said:aV) (k:Int) (nx:lT) (b:Bool) (r:bZ) (p2:eg d.1 d.2.1 d.2.2.1 d.2.2.2.1 d.2.2.2.2.1 d.2.2.2.2.2.1 d.2.2.2.2.2.2.1 d.2.2.2.2.2.2.2.1 d.2.2.2.2.2.2.2.2.1 d.2.2.2.2.2.2.2.2.2.1 d.2.2.2.2.2.2.2.2.2.2.1 d.2.2.2.2.2.2.2.2.2.2.2.1 d.2.2.2.2.2.2.2.2.2.2.2.2.1 d.2.2.2.2.2.2.2.2.2.2.2.2.2.1 d.2.2.2.2.2.2.2.2.2.2.2.2.2.2.1 d.2.2.2.2.2.2.2.2.2.2.2.2.2.2.2.1 d.2.2.2.2.2.2.2.2.2.2.2.2.2.2.2.2.1 d.2.2.2.2.2.2.2.2.2.2.2.2.2.2.2.2.2.1 d.2.2.2.2.2.2.2.2.2.2.2.2.2.2.2.2.2.2.1 d.2.2.2.2.2.2.2.2.2.2.2.2.2.2.2.2.2.2.2.1 d.2.2.2.2.2.2.2.2.2.2.2.2.2.2.2.2.2.2.2.2.1 d.2.2.2.2.2.2.2.2.2.2.2.2.2.2.2.2.2.2.2.2.2.1 d.2.2.2.2.2.2.2.2.2.2.2.2.2.2.2.2.2.2.2.2.2.2.1 d.2.2.2.2.2.2.2.2.2.2.2.2.2.2.2.2.2.2.2.2.2.2.2.1=some d) (k2:cX d.1 d.2.1 d.2.2.1 d.2.2.2.1 d.2.2.2.2.1 d.2.2.2.2.2.1 d.2.2.2.2.2.2.1 d.2.2.2.2.2.2.2.1 d.2.2.2.2.2.2.2.2.1 d.2.2.2.2.2.2.2.2.2.1 d.2.2.2.2.2.2.2.2.2.2.1 d.2.2.2.2.2.2.2.2.2.2.2.1 d.2.2.2.2.2.2.2.2.2.2.2.2.1 d.2.2.2.2.2.2.2.2.2.2.2.2.2.1 d.2.2.2.2.2.2.2.2.2.2.2.2.2.2.1 d.2.2.2.2.2.2.2.2.2.2.2.2.2.2.2.1 d.2.2.2.2.2.2.2.2.2.2.2.2.2.2.2.2.1 d.2.2.2.2.2.2.2.2.2.2.2.2.2.2.2.2.2.1 d.2.2.2.2.2.2.2.2.2.2.2.2.2.2.2.2.2.2.1 d.2.2.2.2.2.2.2.2.2.2.2.2.2.2.2.2.2.2.2.1 d.2.2.2.2.2.2.2.2.2.2.2.2.2.2.2.2.2.2.2.2.1 d.2.2.2.2.2.2.2.2.2.2.2.2.2.2.2.2.2.2.2.2.2.1 d.2.2.2.2.2.2.2.2.2.2.2.2.2.2.2.2.2.2.2.2.2.2.1 d.2.2.2.2.2.2.2.2.2.2.2.2.2.2.2.2.2.2.2.2.2.2.2.1=some (jd d,())) (hq:(!decide (d.2.2.2.1=0)&&decide (d.2.2.2.2.2.2.2.2.2.2.2.2.2.2.2.2.2.2.2.2.1=0)&&jd d)=fZ d) (c2:lK d.2.2.1 d.2.2.2.1 d.2.2.2.2.1 d.2.2.2.2.2.1 d.2.2.2.2.2.2.1 d.2.2.2.2.2.2.2.1 d.2.2.2.2.2.2.2.2.1 d.2.2.2.2.2.2.2.2.2.1 d.2.2.2.2.2.2.2.2.2.2.1 d.2.2.2.2.2.2.2.2.2.2.2.1 d.2.2.2.2.2.2.2.2.2.2.2.2.1 d.2.2.2.2.2.2.2.2.2.2.2.2.2.1 d.2.2.2.2.2.2.2.2.2.2.2.2.2.2.1 d.2.2.2.2.2.2.2.2.2.2.2.2.2.2.2.1 d.2.2.2.2.2.2.2.2.2.2.2.2.2.2.2.2.1 d.2.2.2.2.2.2.2.2.2.2.2.2.2.2.2.2.2.1 t.1 t.2.1 t.2.2.1 t.2.2.2.1 t.2.2.2.2.1 t.2.2.2.2.2.1=some (m.1,m.2.1,m.2.2.1,m.2.2.2.1,m.2.2.2.2.1,m.2.2.2.2.2.1,m.2.2.2.2.2.2.1,m.2.2.2.2.2.2.2.1,m.2.2.2.2.2.2.2.2.1,m.2.2.2.2.2.2.2.2.2.1,m.2.2.2.2.2.2.2.2.2.2.1,m.2.2.2.2.2.2.2.2.2.2.2.1,m.2.2.2.2.2.2.2.2.2.2.2.2.1,m.2.2.2.2.2.2.2.2.2.2.2.2.2.1,m.2.2.2.2.2.2.2.2.2.2.2.2.2.2.1,m.2.2.2.2.2.2.2.2.2.2.2.2.2.2.2.1,said,k,nx.1,nx.2.1,nx.2.2.1,nx.2.2.2.1,nx.2.2.2.2.1,nx.2.2.2.2.2.1,b,()))
  (e2:b=true→gr d.1 d.2.1 m.1 m.2.1 m.2.2.1 m.2.2.2.1 m.2.2.2.2.1 m.2.2.2.2.2.1 m.2.2.2.2.2.2.1 m.2.2.2.2.2.2.2.1 m.2.2.2.2.2.2.2.2.1 m.2.2.2.2.2.2.2.2.2.1 m.2.2.2.2.2.2.2.2.2.2.1 m.2.2.2.2.2.2.2.2.2.2.2.1 m.2.2.2.2.2.2.2.2.2.2.2.2.1 m.2.2.2.2.2.2.2.2.2.2.2.2.2.1 m.2.2.2.2.2.2.2.2.2.2.2.2.2.2.1 m.2.2.2.2.2.2.2.2.2.2.2.2.2.2.2.1 d.2.2.2.2.2.2.2.2.2.2.2.2.2.2.2.2.2.2.1 d.2.2.2.2.2.2.2.2.2.2.2.2.2.2.2.2.2.2.2.1 d.2.2.2.2.2.2.2.2.2.2.2.2.2.2.2.2.2.2.2.2.1 d.2.2.2.2.2.2.2.2.2.2.2.2.2.2.2.2.2.2.2.2.2.1 d.2.2.2.2.2.2.2.2.2.2.2.2.2.2.2.2.2.2.2.2.2.2.1 d.2.2.2.2.2.2.2.2.2.2.2.2.2.2.2.2.2.2.2.2.2.2.2.1=some r):gI d.1 d.2.1 d.2.2.1 d.2.2.2.1 d.2.2.2.2.1 d.2.2.2.2.2.1 d.2.2.2.2.2.2.1 d.2.2.2.2.2.2.2.1 d.2.2.2.2.2.2.2.2.1 d.2.2.2.2.2.2.2.2.2.1 d.2.2.2.2.2.2.2.2.2.2.1 d.2.2.2.2.2.2.2.2.2.2.2.1 d.2.2.2.2.2.2.2.2.2.2.2.2.1 d.2.2.2.2.2.2.2.2.2.2.2.2.2.1 d.2.2.2.2.2.2.2.2.2.2.2.2.2.2.1 d.2.2.2.2.2.2.2.2.2.2.2.2.2.2.2.1 d.2.2.2.2.2.2.2.2.2.2.2.2.2.2.2.2.1 d.2.2.2.2.2.2.2.2.2.2.2.2.2.2.2.2.2.1 d.2.2.2.2.2.2.2.2.2.2.2.2.2.2.2.2.2.2.1 d.2.2.2.2.2.2.2.2.2.2.2.2.2.2.2.2.2.2.2.1 d.2.2.2.2.2.2.2.2.2.2.2.2.2.2.2.2.2.2.2.2.1 d.2.2.2.2.2.2.2.2.2.2.2.2.2.2.2.2.2.2.2.2.2.1 d.2.2.2.2.2.2.2.2.2.2.2.2.2.2.2.2.2.2.2.2.2.2.1 d.2.2.2.2.2.2.2.2.2.2.2.2.2.2.2.2.2.2.2.2.2.2.2.1 t.1 t.2.1 t.2.2.1 t.2.2.2.1 t.2.2.2.2.1 t.2.2.2.2.2.1=bif fZ d&&b then some (r.1,r.2.1,r.2.2.1,r.2.2.2.1,r.2.2.2.2.1,r.2.2.2.2.2.1,r.2.2.2.2.2.2.1,r.2.2.2.2.2.2.2.1,r.2.2.2.2.2.2.2.2.1,r.2.2.2.2.2.2.2.2.2.1,r.2.2.2.2.2.2.2.2.2.2.1,r.2.2.2.2.2.2.2.2.2.2.2.1,r.2.2.2.2.2.2.2.2.2.2.2.2.1,r.2.2.2.2.2.2.2.2.2.2.2.2.2.1,r.2.2.2.2.2.2.2.2.2.2.2.2.2.2.1,r.2.2.2.2.2.2.2.2.2.2.2.2.2.2.2.1,r.2.2.2.2.2.2.2.2.2.2.2.2.2.2.2.2.1,r.2.2.2.2.2.2.2.2.2.2.2.2.2.2.2.2.2.1,r.2.2.2.2.2.2.2.2.2.2.2.2.2.2.2.2.2.2.1,r.2.2.2.2.2.2.2.2.2.2.2.2.2.2.2.2.2.2.2.1,r.2.2.2.2.2.2.2.2.2.2.2.2.2.2.2.2.2.2.2.2.1,r.2.2.2.2.2.2.2.2.2.2.2.2.2.2.2.2.2.2.2.2.2.1,r.2.2.2.2.2.2.2.2.2.2.2.2.2.2.2.2.2.2.2.2.2.2.1,r.2.2.2.2.2.2.2.2.2.2.2.2.2.2.2.2.2.2.2.2.2.2.2.1,said,nx.1,nx.2.1,nx.2.2.1,nx.2.2.2.1,nx.2.2.2.2.1,nx.2.2.2.2.2.1,true,()) else some (d.1,d.2.1,d.2.2.1,d.2.2.2.1,d.2.2.2.2.1,d.2.2.2.2.2.1,d.2.2.2.2.2.2.1,d.2.2.2.2.2.2.2.1,d.2.2.2.2.2.2.2.2.1,d.2.2.2.2.2.2.2.2.2.1,d.2.2.2.2.2.2.2.2.2.2.1,d.2.2.2.2.2.2.2.2.2.2.2.1,d.2.2.2.2.2.2.2.2.2.2.2.2.1,d.2.2.2.2.2.2.2.2.2.2.2.2.2.1,d.2.2.2.2.2.2.2.2.2.2.2.2.2.2.1,d.2.2.2.2.2.2.2.2.2.2.2.2.2.2.2.1,d.2.2.2.2.2.2.2.2.2.2.2.2.2.2.2.2.1,d.2.2.2.2.2.2.2.2.2.2.2.2.2.2.2.2.2.1,d.2.2.2.2.2.2.2.2.2.2.2.2.2.2.2.2.2.2.1,d.2.2.2.2.2.2.2.2.2.2.2.2.2.2.2.2.2.2.2.1,d.2.2.2.2.2.2.2.2.2.2.2.2.2.2.2.2.2.2.2.2.1,d.2.2.2.2.2.2.2.2.2.2.2.2.2.2.2.2.2.2.2.2.2.1,d.2.2.2.2.2.2.2.2.2.2.2.2.2.2.2.2.2.2.2.2.2.2.1,d.2.2.2.2.2.2.2.2.2.2.2.2.2.2.2.2.2.2.2.2.2.2.2.1,[],(0:Int),(0:Int),(0:Int),(0:Int),(0:Int),[],false,()):=by
 unfold gI jR gO;delta bI ba az aP eE;rw [p2,Option.bind_some,←hq]
 cases decide (d.2.2.2.1=0)
 ·cases decide (d.2.2.2.2.2.2.2.2.2.2.2.2.2.2.2.2.2.2.2.2.1=0)
  ·rfl
  ·simp only [Bool.not_false,cond_true,Option.bind_some,Bool.not_true,cond_false,k2,Bool.true_and]
   cases jd d
   ·rfl
   ·cases b
    ·simp only [Bool.not_true,cond_false,c2,Option.bind_some,Bool.not_false,cond_true,Bool.and_false]
    ·simp only [Bool.not_true,cond_false,c2,Option.bind_some,e2 rfl,Bool.and_self,cond_true]
 ·rfl
end Go.TM
set_option linter.unusedSimpArgs false
set_option linter.unusedVariables false
namespace Go.TM
open Go
structure OI (e:tK):Prop where
 ring:e.2.2.1.length≤5
 Em:e.2.2.2.2.2.2.2.1.length≤5
 text:ByteArray.size e.2.2.2.2.2.2.1≤60
structure kN (n:Nat) (d:bZ):Prop where
 q:xX d
 Ur:d.2.2.2.2.2.2.2.2.2.2.2.2.2.2.2.2.2.2.2.2.2.2.1.length≤n
 log:d.2.2.2.2.2.2.2.2.2.2.2.2.2.2.2.2.2.2.2.2.2.2.2.1.length≤63*n
 Ys:∀e∈d.2.2.2.2.2.2.2.2.2.2.2.2.2.2.2.2.2.2.2.2.2.2.2.1,OI e
theorem kN.up {n n':Nat} {d:bZ} (h:kN n d) (hn:n≤n'):kN n' d:=⟨h.q,Nat.le_trans h.Ur hn,Nat.le_trans h.log (Nat.mul_le_mul_left 63 hn),h.Ys⟩
theorem zK {d:bZ} (q:xX d):d.2.2.2.2.1.length≤5∧mq (aI d)≤5000:=by
 rcases q.tM with g | g
 ·have g1:d.2.2.2.2.1=[]:=g.2.2.1;have g2:d.2.2.2.2.2.1=[]:=g.2.2.2.1;have g3:d.2.2.2.2.2.2.1=[]:=g.2.2.2.2.1;have g4:d.2.2.2.2.2.2.2.1=[]:=g.2.2.2.2.2.1;have g5:d.2.2.2.2.2.2.2.2.2.2.2.2.2.2.2.2.2.1=[]:=g.2.2.2.2.2.2.2.2.2.2.2.2.2.2.2;refine ⟨by rw [g1];exact Nat.zero_le _,?_⟩;show (List.length d.2.2.2.2.1+wl jV d.2.2.2.2.1)+(List.length d.2.2.2.2.2.1+wl dJ d.2.2.2.2.2.1)+(List.length d.2.2.2.2.2.2.1+wl jV d.2.2.2.2.2.2.1)+(List.length d.2.2.2.2.2.2.2.1+wl Jx d.2.2.2.2.2.2.2.1)+(List.length d.2.2.2.2.2.2.2.2.2.2.2.2.2.2.2.2.2.1+wl jV d.2.2.2.2.2.2.2.2.2.2.2.2.2.2.2.2.2.1)≤5000;rw [g1,g2,g3,g4,g5]
  decide
 ·exact ⟨g.1.ring.2.1.2,g.1.small⟩
theorem uY {b:dS} (h:B6 b):b.2.2.2.1.length≤60∧wl dJ b.2.2.2.1≤3600:=dD _ h.2.2.2.1
theorem QM {d:bZ} (q:xX d):d.2.2.2.2.2.2.2.2.2.2.2.2.2.2.2.2.2.2.2.2.2.1.length≤5∧∀b∈d.2.2.2.2.2.2.2.2.2.2.2.2.2.2.2.2.2.2.2.2.2.2.1,B6 b:=by
 rcases q.nT with g | g
 ·exact ⟨by rw [g.2.1];exact Nat.zero_le _,by rw [g.2.2];exact fun b hb=>by cases hb⟩
 ·exact ⟨g.1.2.1.2,fun b hb=>(g.2.2.2 b hb).1⟩
theorem kN.small {n:Nat} {d:bZ} (h:kN n d) (hn:n≤100):ow d≤1048576:=by
 have h1:=(zK h.q).2;obtain ⟨h2,h3⟩:=QM h.q;have h4:=ID ef 3660 d.2.2.2.2.2.2.2.2.2.2.2.2.2.2.2.2.2.2.2.2.2.2.1 (fun b hb=>by
  have:=uY (h3 b hb);have e:ef b=b.2.2.2.1.length+wl dJ b.2.2.2.1:=rfl;omega)
 have h5:=ID bt 70 d.2.2.2.2.2.2.2.2.2.2.2.2.2.2.2.2.2.2.2.2.2.2.2.1 (fun e he=>by
  obtain ⟨e1,e2,e3⟩:=h.Ys e he;have e4:bt e=(e.2.2.1.length+wl jV e.2.2.1)+ByteArray.size e.2.2.2.2.2.2.1+(e.2.2.2.2.2.2.2.1.length+wl jV e.2.2.2.2.2.2.2.1):=rfl;have e5:wl jV e.2.2.1=0:=nc jV (fun _=>rfl) _;have e6:wl jV e.2.2.2.2.2.2.2.1=0:=nc jV (fun _=>rfl) _;omega)
 have h6:wl jV d.2.2.2.2.2.2.2.2.2.2.2.2.2.2.2.2.2.2.2.2.2.1=0:=nc jV (fun _=>rfl) _;have h7:=h.Ur;have h8:=h.log;have e:ow d=mq (aI d)+(List.length d.2.2.2.2.2.2.2.2.2.2.2.2.2.2.2.2.2.2.2.2.2.1+wl jV d.2.2.2.2.2.2.2.2.2.2.2.2.2.2.2.2.2.2.2.2.2.1)+(List.length d.2.2.2.2.2.2.2.2.2.2.2.2.2.2.2.2.2.2.2.2.2.2.1+wl ef d.2.2.2.2.2.2.2.2.2.2.2.2.2.2.2.2.2.2.2.2.2.2.1)+(List.length d.2.2.2.2.2.2.2.2.2.2.2.2.2.2.2.2.2.2.2.2.2.2.2.1+wl bt d.2.2.2.2.2.2.2.2.2.2.2.2.2.2.2.2.2.2.2.2.2.2.2.1):=rfl;omega
theorem R7 {d:bZ} (q:xX d) (h:¬d.2.2.2.2.2.2.2.2.2.2.2.2.2.2.2.2.2.2.2.1=0):rb (aI d)∧d.2.2.1=d.1∧d.2.1=false:=by
 have hd:d.2.1=false:=by
  cases e:d.2.1
  ·rfl
  ·exact absurd (q.dead e).2.1 h
 rcases q.tM with g | g
 ·have h1:d.2.2.2.1=0:=g.2.1;have h2:=q.old.1;exact absurd (h2.trans h1) h
 ·exact ⟨g.1,g.2,hd⟩
theorem QN {d:bZ} {m:jc} (h:xX d) (hd:d.2.1=false) (hm:rb m) (h1:m.1=d.1) (h2:m.2.1=d.2.2.2.1):xX (jU d m):=
 {
  id:=h.id
  xY:=h.xY
  dead:=fun e=>by
   have e:d.2.1=true:=e;rw [hd] at e;cases e
  tM:=.inr ⟨hm,h1⟩
  old:=⟨h.old.1.trans h2.symm,h.old.2⟩
  nT:=h.nT }
theorem zL {n:Nat} {d:bZ} {m:jc} (h:kN n d) (hd:d.2.1=false) (hm:rb m) (h1:m.1=d.1) (h2:m.2.1=d.2.2.2.1):kN n (jU d m):=⟨QN h.q hd hm h1 h2,h.Ur,h.log,h.Ys⟩
theorem ali {n:Nat} {d:bZ} (h:kN n d) (hn:n≤100) {level:Int} {text:ByteArray} (hl:1≤level∧level≤2) (ht:ByteArray.size text≤60) (hb:(bP d level text).2=true):kN (n+1) (bP d level text).1∧(bP d level text).1.1=d.1:=by
 have hW:=h.small hn;have hq:=h.q;unfold bP at hb ⊢
 cases hc:(jd d&&(!d.2.1&&(!decide (d.2.2.2.2.2.2.2.2.2.2.2.2.2.2.2.2.2.2.2.1=0)&&(eS (aI d) level text).2)))
 ·rw [hc] at hb;cases hb
 ·simp only [cond_true];simp only [Bool.and_eq_true,Bool.not_eq_true',decide_eq_false_iff_not] at hc;obtain ⟨_,c1,c2,c3⟩:=hc;obtain ⟨m1,m2,_⟩:=R7 hq c2;have ZP:XI (aI d) level text=true:=by
   unfold eS at c3
   cases hm2:XI (aI d) level text
   ·rw [hm2] at c3;cases c3
   ·rfl
  have hs:(eS (aI d) level text).1=XH (aI d) level text:=by unfold eS;rw [ZP];rfl
  unfold XI at ZP;simp only [Bool.and_eq_true,decide_eq_true_eq] at ZP;rw [hs];exact ⟨(zL h c1 (ZN m1 hl ht ZP.2.2.2) m2 rfl).up (Nat.le_succ n),rfl⟩
theorem MD {xs:aV} (h:fh xs xs.length) (s:Int):ByteArray.size (zG xs s).2.2.2.1≤60:=by
 unfold zG
 cases e:fx xs s with
 |none=>show (0:Nat)≤60;decide
 |some r=>exact (rY h r (CW e).1).2.2.2
theorem ME {c:Int} {ms:dC} {l:aV} (hm:ms.length≤5) (hl:∀x∈l,ByteArray.size x.2.2.2.1≤60):∀e∈gv c ms l,OI e:=fun e he=>by
 obtain ⟨x,hx,rfl⟩:=List.mem_map.1 he;exact ⟨hm,Nat.zero_le _,hl x hx⟩
theorem OJ {m:jc} (hm:rb m):∃k:Nat,k≤60∧cz m=(Fy m (m.2.2.2.2.2.2.2.2.2.1+((k:Nat):Int)),jn m.2.2.2.1 m.2.2.2.2.2.2.2.2.2.1 k)∧rb (Fy m (m.2.2.2.2.2.2.2.2.2.1+((k:Nat):Int))):=by
 obtain ⟨k,n,rfl,_,e,q,g,_⟩:=ZO hm;have ha:=(zA m.2.2.2.1 (Nat.le_trans (dD _ hm.items).1 (by decide))).2.2.1;have hi:=(dD _ hm.items).1;have hg:=hm.heard;refine ⟨k,by omega,?_,q⟩;unfold cz;rw [e]
theorem XX {d:bZ} (q:xX d) (l:aV):xX (su d l):={ id:=q.id,xY:=q.xY,dead:=q.dead,tM:=q.tM,old:=q.old,nT:=q.nT }
theorem QO (d:bZ) (l:aV):(su d l).2.2.2.2.2.2.2.2.2.2.2.2.2.2.2.2.2.2.2.2.2.2.2.1=d.2.2.2.2.2.2.2.2.2.2.2.2.2.2.2.2.2.2.2.2.2.2.2.1++gv d.2.2.2.1 d.2.2.2.2.1 l∧(su d l).2.2.2.2.2.2.2.2.2.2.2.2.2.2.2.2.2.2.2.2.2.2.1=d.2.2.2.2.2.2.2.2.2.2.2.2.2.2.2.2.2.2.2.2.2.2.1∧(su d l).1=d.1:=⟨rfl,rfl,rfl⟩
theorem XY {n:Nat} {d:bZ} (h:kN n d) {l:aV} (hm:(d.2.2.2.2.1).length≤5) (hl:l.length≤60) (ht:∀x∈l,ByteArray.size x.2.2.2.1≤60):kN (n+1) (su d l)∧(su d l).1=d.1:=by
 obtain ⟨e1,e2,e3⟩:=QO d l;refine ⟨⟨XX h.q l,by rw [e2];exact Nat.le_trans h.Ur (Nat.le_succ n),?_,fun x hx => ?_⟩,e3⟩
 ·have:=h.log;rw [e1,List.length_append,oz];omega
 ·rw [e1] at hx;rcases List.mem_append.1 hx with hx | hx
  ·exact h.Ys x hx
  ·exact ME hm ht x hx
theorem OK {n:Nat} {d:bZ} (h:kN n d) (hm:rb (aI d)) (h1:d.2.2.1=d.1) (hd:d.2.1=false):kN (n+1) (tO d)∧(tO d).1=d.1:=by
 obtain ⟨k,hk,e,q⟩:=OJ hm;have hw:=zL h hd q h1 rfl;unfold tO;rw [e];refine XY hw hm.ring.2.1.2 (by rw [zH];exact hk) fun x hx => ?_
 obtain ⟨j,_,rfl⟩:=List.mem_map.1 hx;exact MD hm.items _
theorem ZQ {m:jc} (hm:rb m) (x:dY):rb (qU m x)∧(qU m x).1=m.1∧(qU m x).2.1=m.2.1:=by
 have hi:=(dD _ hm.items).1
 cases hx:zX x
 ·have hc:qU m x=m:=by
   unfold qU II;rw [hx]
   cases uH m<;>cases m9 m.2.2.2.1<;>rfl
  rw [hc];exact ⟨hm,rfl,rfl⟩
 ·have hq:=(zz x).2.2.1 hx;have hp:=zB hm.items hq;have hi2:=(dD _ hp).1;have ha:dH m.2.2.2.1≤dH (nt m.2.2.2.1 x):=OD (by omega) (by omega) fun r hr=>⟨r,Fx hr,rfl⟩
  have hc:qU m x=Le m (nt m.2.2.2.1 x):=by
   unfold qU II;rw [(tL m (Nat.le_trans hm.small (by decide))).2.2.2 hm,(pj _ (by omega)).2.2.2 hm.items,(zz x).2.2.2 hq];rfl
  rw [hc];exact ⟨{ hm with
   items:=hp
   line:=⟨hm.line.1,by show m.2.2.2.2.2.2.2.2.1≤((dH (nt m.2.2.2.1 x):Nat):Int);have:=hm.line.2;omega⟩
   heard:=⟨hm.heard.1,by show m.2.2.2.2.2.2.2.2.2.1≤((dH (nt m.2.2.2.1 x):Nat):Int);have:=hm.heard.2;omega⟩ },rfl,rfl⟩
theorem uZ {d:bZ} (h:ow d≤1048576) (hi:fZ d=true):rb (aI d)∧d.2.2.1=d.1∧d.2.1=false∧¬d.2.2.2.2.2.2.2.2.2.2.2.2.2.2.2.2.2.2.2.1=0:=by
 obtain ⟨q,_,h2,_,h4,_⟩:=Oz d h hi;have lO:¬d.2.2.2.2.2.2.2.2.2.2.2.2.2.2.2.2.2.2.2.1=0:=by omega
 obtain ⟨m1,m2,_⟩:=R7 q lO;exact ⟨m1,m2,h2,lO⟩
theorem QP {n:Nat} {d:bZ} (h:kN n d) (hn:n≤100) (wj:Int) (x:dY):kN (n+1) (mV d wj x)∧(mV d wj x).1=d.1:=by
 unfold mV
 cases hc:(fZ d&&decide (d.2.2.2.2.2.2.2.2.2.2.2.2.2.2.2.2.2.2.2.1=wj))
 ·exact ⟨h.up (Nat.le_succ n),rfl⟩
 ·simp only [Bool.and_eq_true] at hc;obtain ⟨m1,m2,m3,_⟩:=uZ (h.small hn) hc.1;obtain ⟨c1,c2,c3⟩:=ZQ m1 x;exact OK (zL h m3 c1 (c2.trans m2) c3) c1 (c2.trans m2) m3
theorem FB {n:Nat} {d:bZ} (h:kN n d) (hn:n≤100) (t:lT) (hw:t.2.2.2.2.2.1.length≤1048576):∃(r:bZ) (said:aV) (nx:lT) (b:Bool),gF d.1 d.2.1 d.2.2.1 d.2.2.2.1 d.2.2.2.2.1 d.2.2.2.2.2.1 d.2.2.2.2.2.2.1 d.2.2.2.2.2.2.2.1 d.2.2.2.2.2.2.2.2.1 d.2.2.2.2.2.2.2.2.2.1 d.2.2.2.2.2.2.2.2.2.2.1 d.2.2.2.2.2.2.2.2.2.2.2.1 d.2.2.2.2.2.2.2.2.2.2.2.2.1 d.2.2.2.2.2.2.2.2.2.2.2.2.2.1 d.2.2.2.2.2.2.2.2.2.2.2.2.2.2.1 d.2.2.2.2.2.2.2.2.2.2.2.2.2.2.2.1 d.2.2.2.2.2.2.2.2.2.2.2.2.2.2.2.2.1 d.2.2.2.2.2.2.2.2.2.2.2.2.2.2.2.2.2.1 d.2.2.2.2.2.2.2.2.2.2.2.2.2.2.2.2.2.2.1 d.2.2.2.2.2.2.2.2.2.2.2.2.2.2.2.2.2.2.2.1 d.2.2.2.2.2.2.2.2.2.2.2.2.2.2.2.2.2.2.2.2.1 d.2.2.2.2.2.2.2.2.2.2.2.2.2.2.2.2.2.2.2.2.2.1 d.2.2.2.2.2.2.2.2.2.2.2.2.2.2.2.2.2.2.2.2.2.2.1 d.2.2.2.2.2.2.2.2.2.2.2.2.2.2.2.2.2.2.2.2.2.2.2.1 t.1 t.2.1 t.2.2.1 t.2.2.2.1 t.2.2.2.2.1 t.2.2.2.2.2.1=some (r.1,r.2.1,r.2.2.1,r.2.2.2.1,r.2.2.2.2.1,r.2.2.2.2.2.1,r.2.2.2.2.2.2.1,r.2.2.2.2.2.2.2.1,r.2.2.2.2.2.2.2.2.1,r.2.2.2.2.2.2.2.2.2.1,r.2.2.2.2.2.2.2.2.2.2.1,r.2.2.2.2.2.2.2.2.2.2.2.1,r.2.2.2.2.2.2.2.2.2.2.2.2.1,r.2.2.2.2.2.2.2.2.2.2.2.2.2.1,r.2.2.2.2.2.2.2.2.2.2.2.2.2.2.1,r.2.2.2.2.2.2.2.2.2.2.2.2.2.2.2.1,r.2.2.2.2.2.2.2.2.2.2.2.2.2.2.2.2.1,r.2.2.2.2.2.2.2.2.2.2.2.2.2.2.2.2.2.1,r.2.2.2.2.2.2.2.2.2.2.2.2.2.2.2.2.2.2.1,r.2.2.2.2.2.2.2.2.2.2.2.2.2.2.2.2.2.2.2.1,r.2.2.2.2.2.2.2.2.2.2.2.2.2.2.2.2.2.2.2.2.1,r.2.2.2.2.2.2.2.2.2.2.2.2.2.2.2.2.2.2.2.2.2.1,r.2.2.2.2.2.2.2.2.2.2.2.2.2.2.2.2.2.2.2.2.2.2.1,r.2.2.2.2.2.2.2.2.2.2.2.2.2.2.2.2.2.2.2.2.2.2.2.1,said,nx.1,nx.2.1,nx.2.2.1,nx.2.2.2.1,nx.2.2.2.2.1,nx.2.2.2.2.2.1,b,())∧gI d.1 d.2.1 d.2.2.1 d.2.2.2.1 d.2.2.2.2.1 d.2.2.2.2.2.1 d.2.2.2.2.2.2.1 d.2.2.2.2.2.2.2.1 d.2.2.2.2.2.2.2.2.1 d.2.2.2.2.2.2.2.2.2.1 d.2.2.2.2.2.2.2.2.2.2.1 d.2.2.2.2.2.2.2.2.2.2.2.1 d.2.2.2.2.2.2.2.2.2.2.2.2.1 d.2.2.2.2.2.2.2.2.2.2.2.2.2.1 d.2.2.2.2.2.2.2.2.2.2.2.2.2.2.1 d.2.2.2.2.2.2.2.2.2.2.2.2.2.2.2.1 d.2.2.2.2.2.2.2.2.2.2.2.2.2.2.2.2.1 d.2.2.2.2.2.2.2.2.2.2.2.2.2.2.2.2.2.1 d.2.2.2.2.2.2.2.2.2.2.2.2.2.2.2.2.2.2.1 d.2.2.2.2.2.2.2.2.2.2.2.2.2.2.2.2.2.2.2.1 d.2.2.2.2.2.2.2.2.2.2.2.2.2.2.2.2.2.2.2.2.1 d.2.2.2.2.2.2.2.2.2.2.2.2.2.2.2.2.2.2.2.2.2.1 d.2.2.2.2.2.2.2.2.2.2.2.2.2.2.2.2.2.2.2.2.2.2.1 d.2.2.2.2.2.2.2.2.2.2.2.2.2.2.2.2.2.2.2.2.2.2.2.1 t.1 t.2.1 t.2.2.1 t.2.2.2.1 t.2.2.2.2.1 t.2.2.2.2.2.1=some (r.1,r.2.1,r.2.2.1,r.2.2.2.1,r.2.2.2.2.1,r.2.2.2.2.2.1,r.2.2.2.2.2.2.1,r.2.2.2.2.2.2.2.1,r.2.2.2.2.2.2.2.2.1,r.2.2.2.2.2.2.2.2.2.1,r.2.2.2.2.2.2.2.2.2.2.1,r.2.2.2.2.2.2.2.2.2.2.2.1,r.2.2.2.2.2.2.2.2.2.2.2.2.1,r.2.2.2.2.2.2.2.2.2.2.2.2.2.1,r.2.2.2.2.2.2.2.2.2.2.2.2.2.2.1,r.2.2.2.2.2.2.2.2.2.2.2.2.2.2.2.1,r.2.2.2.2.2.2.2.2.2.2.2.2.2.2.2.2.1,r.2.2.2.2.2.2.2.2.2.2.2.2.2.2.2.2.2.1,r.2.2.2.2.2.2.2.2.2.2.2.2.2.2.2.2.2.2.1,r.2.2.2.2.2.2.2.2.2.2.2.2.2.2.2.2.2.2.2.1,r.2.2.2.2.2.2.2.2.2.2.2.2.2.2.2.2.2.2.2.2.1,r.2.2.2.2.2.2.2.2.2.2.2.2.2.2.2.2.2.2.2.2.2.1,r.2.2.2.2.2.2.2.2.2.2.2.2.2.2.2.2.2.2.2.2.2.2.1,r.2.2.2.2.2.2.2.2.2.2.2.2.2.2.2.2.2.2.2.2.2.2.2.1,said,nx.1,nx.2.1,nx.2.2.1,nx.2.2.2.1,nx.2.2.2.2.1,nx.2.2.2.2.2.1,b,())∧kN (n+1) r∧r.1=d.1∧
  (b=false→r=d∧(fZ d=false∨OF (aI d) t=false))∧(b=true→fZ d=true∧Mq t∧∃(m:jc) (k:Nat),alf (aI d) t m said k nx∧r=tO (jU d m)):=by
 have hW:=h.small hn;obtain ⟨k1,k2,_⟩:=j6 d hW;obtain ⟨p1,p2⟩:=uJ d hW;have hwm:mq (aI d)≤1048576:=Nat.le_trans (XK d) hW
 cases hb:OF (aI d) t
 ·obtain ⟨c2,c1⟩:=ZM (aI d) t hwm hw hb;have e1:=En d t (aI d) [] ((0:Int),(0:Int),(0:Int),(0:Int),(0:Int),[],()) false d p1 (x4 d hW) c1 (fun e=>by cases e);have e2:=Eo d t ((0:Int),(0:Int),[],[],[],[],(0:Int),(0:Int),(0:Int),(0:Int),(0:Int),(0:Int),(0:Int),(0:Int),(0:Int),[],()) [] (0:Int) ((0:Int),(0:Int),(0:Int),(0:Int),(0:Int),[],()) false d p2 k2 (CY d hW) c2 (fun e=>by cases e);rw [Bool.and_false,cond_false] at e1 e2;exact ⟨d,[],((0:Int),(0:Int),(0:Int),(0:Int),(0:Int),[],()),false,e1,e2,h.up (Nat.le_succ n),rfl,fun _=>⟨rfl,.inr rfl⟩,fun e=>by cases e⟩
 ·have tX:=hb;unfold OF at tX;simp only [Bool.and_eq_true,decide_eq_true_eq] at tX;obtain ⟨b1,b2,b3,b4,b5⟩:=tX;have hm:=(tL (aI d) hwm).2.2.1 b1;have ht:=(Fq t hw).2.2.1 b2;obtain ⟨m,said,k,nx,hh,c2,c1⟩:=ZJ (aI d) t hm ht b3 b4 b5;have hnW:=hh.nq.small;have hg:d.2.2.2.2.2.2.2.2.2.2.2.2.2.2.2.2.2.2.2.2.2.2.2.1.length≤1048576:=by unfold ow at hW;omega
  obtain ⟨e1,e2⟩:=IJ (jU d m) (show mq m≤1048576 by omega) hg;have s1:=En d t m said nx true (tO (jU d m)) p1 (x4 d hW) c1 (fun _=>e1);have s2:=Eo d t m said ((k:Nat):Int) nx true (tO (jU d m)) p2 k2 (CY d hW) c2 (fun _=>e2);rw [Bool.and_true] at s1 s2
  cases hi:fZ d
  ·rw [hi,cond_false] at s1 s2;exact ⟨d,[],((0:Int),(0:Int),(0:Int),(0:Int),(0:Int),[],()),false,s1,s2,h.up (Nat.le_succ n),rfl,fun _=>⟨rfl,.inl rfl⟩,fun e=>by cases e⟩
  ·rw [hi,cond_true] at s1 s2;obtain ⟨m1,m2,m3,_⟩:=uZ hW hi;obtain ⟨g1,g2⟩:=OK (zL h m3 hh.nq (hh.id.1.trans m2) hh.id.2.1) hh.nq (hh.id.1.trans m2) m3;exact ⟨tO (jU d m),said,nx,true,s1,s2,g1,g2,fun e=>(by cases e),fun _=>⟨rfl,ht,m,k,hh,rfl⟩⟩
def XZ (d:bZ):bZ:=(d.1,true,0,0,[],[],[],[],0,0,0,0,0,0,0,0,0,[],d.2.2.2.2.2.2.2.2.2.2.2.2.2.2.2.2.2.2.1,0,0,[],[],d.2.2.2.2.2.2.2.2.2.2.2.2.2.2.2.2.2.2.2.2.2.2.2.1,())
theorem agt {n:Nat} {d:bZ} (h:kN n d):kN n (XZ d):=
 ⟨{
  id:=h.q.id
  xY:=h.q.xY
  dead:=fun _=>⟨⟨rfl,rfl,rfl,rfl,rfl,rfl,rfl,rfl,rfl,rfl,rfl,rfl,rfl,rfl,rfl,rfl⟩,rfl,rfl,rfl,rfl⟩
  tM:=.inl ⟨rfl,rfl,rfl,rfl,rfl,rfl,rfl,rfl,rfl,rfl,rfl,rfl,rfl,rfl,rfl,rfl⟩
  old:=⟨rfl,h.q.xY.1⟩
  nT:=.inl ⟨rfl,rfl,rfl⟩ },Nat.zero_le _,h.log,h.Ys⟩
theorem agu {n:Nat} {d:bZ} (h:kN n d) (hb:(ju d).2=true):kN n (ju d).1∧(ju d).1.1=d.1:=by
 unfold ju at hb ⊢
 cases hc:(jd d&&d.2.1)
 ·rw [hc] at hb;cases hb
 ·exact ⟨⟨{ id:=h.q.id,xY:=h.q.xY,dead:=fun e=>(by cases e),tM:=h.q.tM,old:=h.q.old,nT:=h.q.nT },h.Ur,h.log,h.Ys⟩,rfl⟩
end Go.TM
set_option linter.unusedSimpArgs false
set_option linter.unusedVariables false
namespace Go.TM
open Go
theorem Ep (xs:List dS) (c id:Int) (gJ:dS):(ms:dC)→(out:dC)→(ms.foldl (fun out m=>iG xs c id gJ out m.1) out).length≤out.length+ms.length
 | [],out=>by simp
 |m::ms,out=>by
  have h1:=Ed xs c id gJ out m.1;have h2:=Ep xs c id gJ ms (iG xs c id gJ out m.1);rw [List.foldl_cons,List.length_cons];omega
theorem QQ (xs:List dS) (c:Int) (ms:dC) (id:Int):(ff xs c ms id).length≤ms.length:=by
 unfold ff
 cases fT xs c id with
 |none=>exact Nat.zero_le _
 |some gJ=>
  have:=Ep xs c id gJ ms [];simpa using this
theorem QR (xs:List dS) (c:Int) (ms:dC) (id heard:Int) (h:jr xs):(tV xs c ms id heard).length≤60∧∀x∈tV xs c ms id heard,pT x:=by
 refine ⟨(FA xs c ms id heard h).1,fun x hx => ?_⟩;have lu:∀x∈tN xs c ms id,pT x:=fun x hx=>by
  unfold tN xr at hx;have hx:=(List.mem_filter.1 hx).1;refine rY (nU _ pV fun l hl => ?_) x hx;obtain ⟨d,_,rfl⟩:=List.mem_map.1 hl;exact uI xs c h d
 unfold tV at hx
 split at hx
 ·cases hx
 ·rename_i gJ _
  cases hz:decide (gJ.2.2.1=0)
  ·rw [hz] at hx;exact lu x (List.mem_filter.1 hx).1
  ·rw [hz] at hx;cases hx
theorem Lh {d:bZ} (q:xX d) (hj:¬d.2.2.2.2.2.2.2.2.2.2.2.2.2.2.2.2.2.2.2.2.1=0):xX (dU d):=by
 obtain ⟨j1,j2,j3,_⟩:=q.nT.resolve_left fun g=>hj g.1
 have hm:rb (aI (dU d)):={
  ring:=j1
  mem:=j2
  items:=fun k hk=>by cases hk
  texts:=by
   rcases q.tM with g | g
   ·have g1:d.2.2.2.2.2.2.1=[]:=g.2.2.2.2.1;have g2:d.2.2.2.2.2.2.2.1=[]:=g.2.2.2.2.2.1;show (d.2.2.2.2.2.2.2.1).length≤20∧(d.2.2.2.2.2.2.1).length=(d.2.2.2.2.2.2.2.1).length;rw [g1,g2];exact ⟨Nat.zero_le _,rfl⟩
   ·exact g.1.texts
  Yq:=by
   rcases q.tM with g | g
   ·have g1:d.2.2.2.2.2.2.1=[]:=g.2.2.2.2.1;show xW d.2.2.2.2.2.2.1 (d.2.2.2.2.2.2.1).length;rw [g1];exact fun j hj=>by cases hj
   ·exact g.1.Yq
  short:=by
   rcases q.tM with g | g
   ·have g2:d.2.2.2.2.2.2.2.1=[]:=g.2.2.2.2.2.1;show kM d.2.2.2.2.2.2.2.1 (d.2.2.2.2.2.2.2.1).length;rw [g2];exact fun j hj=>by cases hj
   ·exact g.1.short
  round:=⟨Int.le_refl _,show (0:Int)≤1000000000 by decide⟩
  seen:=⟨Int.le_refl _,show (0:Int)≤60 by decide⟩
  line:=⟨Int.le_refl _,Int.natCast_nonneg _⟩
  heard:=⟨Int.le_refl _,Int.natCast_nonneg _⟩
  last:=.inl ⟨rfl,rfl,rfl,rfl,rfl,rfl⟩ }
 exact
 {
  id:=q.id
  xY:=q.xY
  dead:=fun e=>by
   have e:d.2.1=true:=e;exact absurd (q.dead e).2.2.1 hj
  tM:=.inr ⟨hm,rfl⟩
  old:=⟨rfl,j3.2⟩
  nT:=.inl ⟨rfl,rfl,rfl⟩ }
theorem Gp {d:bZ} (q:xX d) (hj:¬d.2.2.2.2.2.2.2.2.2.2.2.2.2.2.2.2.2.2.2.2.1=0) (hB:jr d.2.2.2.2.2.2.2.2.2.2.2.2.2.2.2.2.2.2.2.2.2.2.1) (he:∀e∈d.2.2.2.2.2.2.2.2.2.2.2.2.2.2.2.2.2.2.2.2.2.2.2.1,OI e):(x6 d++[(3,d.2.2.2.2.2.2.2.2.2.2.2.2.2.2.2.2.2.2.2.2.1,d.2.2.2.2.2.2.2.2.2.2.2.2.2.2.2.2.2.2.2.2.2.1,0,0,0,ByteArray.empty,d.2.2.2.2.2.2.2.2.2.2.2.2.2.2.2.2.2.2.2.2.2.1,())]:List tK).length≤(d.2.2.2.2.2.2.2.2.2.2.2.2.2.2.2.2.2.2.2.2.2.2.2.1).length+62∧∀e∈(x6 d++[(3,d.2.2.2.2.2.2.2.2.2.2.2.2.2.2.2.2.2.2.2.2.1,d.2.2.2.2.2.2.2.2.2.2.2.2.2.2.2.2.2.2.2.2.2.1,0,0,0,ByteArray.empty,d.2.2.2.2.2.2.2.2.2.2.2.2.2.2.2.2.2.2.2.2.2.1,())]:List tK),OI e:=by
 obtain ⟨j1,j2,j3,_⟩:=q.nT.resolve_left fun g=>hj g.1
 have h4:=(zK q).1;obtain ⟨r1,r2⟩:=QR d.2.2.2.2.2.2.2.2.2.2.2.2.2.2.2.2.2.2.2.2.2.2.1 d.2.2.2.2.2.2.2.2.2.2.2.2.2.2.2.2.2.2.2.2.1 d.2.2.2.2.2.2.2.2.2.2.2.2.2.2.2.2.2.2.2.2.2.1 d.1 d.2.2.2.2.2.2.2.2.2.2.2.1 hB;have hw:=QQ d.2.2.2.2.2.2.2.2.2.2.2.2.2.2.2.2.2.2.2.2.2.2.1 d.2.2.2.2.2.2.2.2.2.2.2.2.2.2.2.2.2.2.2.2.1 d.2.2.2.2.2.2.2.2.2.2.2.2.2.2.2.2.2.2.2.2.2.1 d.1;have hp:(Br d).length≤61:=by
  unfold Br;rw [List.length_append,oz,List.length_singleton];omega
 have hpe:∀e∈Br d,OI e:=fun e h=>by
  unfold Br at h;rcases List.mem_append.1 h with h | h
  ·rw [List.mem_singleton] at h;subst h;exact ⟨h4,Nat.le_trans hw j1.2.1.2,show (0:Nat)≤60 by decide⟩
  ·exact ME h4 (fun x hx=>(r2 x hx).2.2.2) e h
 have hg:(x6 d).length≤(d.2.2.2.2.2.2.2.2.2.2.2.2.2.2.2.2.2.2.2.2.2.2.2.1).length+61∧∀e∈x6 d,OI e:=by
  unfold x6
  cases decide (0<d.2.2.2.2.2.2.2.2.2.2.2.2.2.2.2.2.2.2.2.1)
  ·exact ⟨Nat.le_add_right _ _,he⟩
  ·refine ⟨by show (d.2.2.2.2.2.2.2.2.2.2.2.2.2.2.2.2.2.2.2.2.2.2.2.1++Br d).length≤_;rw [List.length_append];omega,fun e h => ?_⟩;have h:e∈d.2.2.2.2.2.2.2.2.2.2.2.2.2.2.2.2.2.2.2.2.2.2.2.1++Br d:=h;rcases List.mem_append.1 h with h | h
   ·exact he e h
   ·exact hpe e h
 refine ⟨by rw [List.length_append,List.length_singleton];omega,fun e h => ?_⟩;rcases List.mem_append.1 h with h | h
 ·exact hg.2 e h
 ·rw [List.mem_singleton] at h;subst h;exact ⟨j1.2.1.2,j1.2.1.2,show (0:Nat)≤60 by decide⟩
theorem FD {n:Nat} {d:bZ} (h:kN n d) (hn:n≤100) {b:dS} (hb:b.2.2.2.1.length≤1048576) (ht:(bz d b).2=true):kN (n+1) (bz d b).1∧(bz d b).1.1=d.1∧B6 b∧¬d.2.2.2.2.2.2.2.2.2.2.2.2.2.2.2.2.2.2.2.2.1=0∧b.2.1=d.2.2.2.2.2.2.2.2.2.2.2.2.2.2.2.2.2.2.2.2.1:=by
 have hW:=h.small hn;unfold bz at ht ⊢
 cases hc:x7 d b
 ·rw [hc] at ht;cases ht
 ·unfold x7 at hc;simp only [Bool.and_eq_true,Bool.not_eq_true',decide_eq_true_eq,decide_eq_false_iff_not] at hc;obtain ⟨c1,c2,c3,c4,_⟩:=hc;have hP:=(Ee b hb).1 c2;obtain ⟨_,_,_,hB,_,_,_⟩:=wX d b hW hb c1 c3;obtain ⟨j1,j2,j3,j4⟩:=h.q.nT.resolve_left fun g=>c3 g.1
  have hq:kN (n+1) (dz d (d.2.2.2.2.2.2.2.2.2.2.2.2.2.2.2.2.2.2.2.2.2.2.1++[b])):=
   ⟨{
    id:=h.q.id
    xY:=h.q.xY
    dead:=fun e=>by
     have e:d.2.1=true:=e;exact absurd (h.q.dead e).2.2.1 c3
    tM:=h.q.tM
    old:=h.q.old
    nT:=.inr ⟨j1,j2,j3,fun x hx=>by
     have hx:x∈d.2.2.2.2.2.2.2.2.2.2.2.2.2.2.2.2.2.2.2.2.2.2.1++[b]:=hx;rcases List.mem_append.1 hx with hx | hx
     ·exact j4 x hx
     ·rw [List.mem_singleton] at hx;subst hx;exact ⟨hP,c4⟩⟩ },
   by show (d.2.2.2.2.2.2.2.2.2.2.2.2.2.2.2.2.2.2.2.2.2.2.1++[b]).length≤_;rw [List.length_append,List.length_singleton];have:=h.Ur;omega,
   by show (d.2.2.2.2.2.2.2.2.2.2.2.2.2.2.2.2.2.2.2.2.2.2.2.1).length≤_;have:=h.log;omega,h.Ys⟩
  refine ⟨?_,?_,hP,c3,c4⟩
  ·show kN (n+1) (fi d b);unfold fi
   cases jT d.2.2.2.2.2.2.2.2.2.2.2.2.2.2.2.2.2.2.2.2.1 d.2.2.2.2.2.2.2.2.2.2.2.2.2.2.2.2.2.2.2.2.2.1 (d.2.2.2.2.2.2.2.2.2.2.2.2.2.2.2.2.2.2.2.2.2.2.1++[b])
   ·exact hq
   ·obtain ⟨g1,g2⟩:=Gp (d:=dz d (d.2.2.2.2.2.2.2.2.2.2.2.2.2.2.2.2.2.2.2.2.2.2.1++[b])) hq.q c3 hB h.Ys;exact ⟨Lh hq.q c3,Nat.zero_le _,by
     show (x6 (dz d (d.2.2.2.2.2.2.2.2.2.2.2.2.2.2.2.2.2.2.2.2.2.2.1++[b]))++[_]).length≤_;have:=h.log;have g1:_≤(d.2.2.2.2.2.2.2.2.2.2.2.2.2.2.2.2.2.2.2.2.2.2.2.1).length+62:=g1;omega,g2⟩
  ·show (fi d b).1=d.1;unfold fi
   cases jT d.2.2.2.2.2.2.2.2.2.2.2.2.2.2.2.2.2.2.2.2.1 d.2.2.2.2.2.2.2.2.2.2.2.2.2.2.2.2.2.2.2.2.2.1 (d.2.2.2.2.2.2.2.2.2.2.2.2.2.2.2.2.2.2.2.2.2.2.1++[b])<;>rfl
def cC (d:bZ) (r:Int):dS:=(d.1,r,d.2.2.2.2.2.2.2.2.2.2.2.2.2.2.2.2.2.2.2.1,d.2.2.2.2.2.1,())
def bG (d:bZ) (c:Int) (ms:dC):bZ:=((aI d).1,(aI d).2.1,(aI d).2.2.1,(aI d).2.2.2.1,(aI d).2.2.2.2.1,(aI d).2.2.2.2.2.1,(aI d).2.2.2.2.2.2.1,(aI d).2.2.2.2.2.2.2.1,(aI d).2.2.2.2.2.2.2.2.1,(aI d).2.2.2.2.2.2.2.2.2.1,(aI d).2.2.2.2.2.2.2.2.2.2.1,(aI d).2.2.2.2.2.2.2.2.2.2.2.1,(aI d).2.2.2.2.2.2.2.2.2.2.2.2.1,(aI d).2.2.2.2.2.2.2.2.2.2.2.2.2.1,(aI d).2.2.2.2.2.2.2.2.2.2.2.2.2.2.1,(aI d).2.2.2.2.2.2.2.2.2.2.2.2.2.2.2.1,c,d.2.2.2.2.2.2.2.2.2.2.2.2.2.2.2.2.2.2.2.1,c,ms,[cC d c],d.2.2.2.2.2.2.2.2.2.2.2.2.2.2.2.2.2.2.2.2.2.2.2.1,()) |> fun x=>(d.1,d.2.1,x)
noncomputable def tP (d:bZ) (c:Int) (ms:dC):bZ:=bif jT c ms [cC d c] then dU (bG d c ms) else bG d c ms
noncomputable def x8 (d:bZ) (c:Int) (ms:dC):Bool:=jd d&&(!d.2.1&&(qS c ms&&(decide ((d.1,())∈ms) && !decide (c≤d.2.2.2.2.2.2.2.2.2.2.2.2.2.2.2.2.2.2.1))))
theorem Bs {n:Nat} {d:bZ} (h:kN n d) {c:Int} {ms:dC} (hr:js c ms) (hm:(d.1,())∈ms) (hd:d.2.1=false) (hc:d.2.2.2.2.2.2.2.2.2.2.2.2.2.2.2.2.2.2.1<c):kN (n+1) (bG d c ms)∧B6 (cC d c)∧jr [cC d c]:=by
 have hold:=h.q.old;have alj:=h.q.arN;have Un:fh d.2.2.2.2.2.1 (d.2.2.2.2.2.1).length∧(0<d.2.2.2.2.2.2.2.2.2.2.2.2.2.2.2.2.2.2.2.1∨(d.2.2.2.2.2.1).length=0):=by
  rcases h.q.tM with g | g
  ·have g2:d.2.2.2.2.2.1=[]:=g.2.2.2.1;rw [g2];exact ⟨pV,.inr rfl⟩
  ·refine ⟨g.1.items,.inl ?_⟩;have h1:1≤d.2.2.2.1:=g.1.ring.1.1;omega
 have hP:B6 (cC d c):=⟨h.q.id,hr.1,⟨alj,by show d.2.2.2.2.2.2.2.2.2.2.2.2.2.2.2.2.2.2.2.1≤c-1;omega⟩,Un.1,Un.2⟩;have hl:=(dD _ Un.1).1;have MZ:xX (bG d c ms):={
  id:=h.q.id
  xY:=⟨by show 0≤c;have:=hr.1.1;omega,hr.1.2⟩
  dead:=fun e=>by
   have e:d.2.1=true:=e;rw [hd] at e;cases e
  tM:=h.q.tM
  old:=⟨hold.1,by show d.2.2.2.2.2.2.2.2.2.2.2.2.2.2.2.2.2.2.2.1≤c;omega⟩
  nT:=.inr ⟨hr,hm,⟨by show d.2.2.2.2.2.2.2.2.2.2.2.2.2.2.2.2.2.2.2.1+1≤c;omega,Int.le_refl _⟩,fun x hx=>by
   have hx:x∈[cC d c]:=hx;rw [List.mem_singleton] at hx;subst hx;exact ⟨hP,rfl⟩⟩ }
 refine ⟨⟨MZ,by show 1≤n+1;omega,by show (d.2.2.2.2.2.2.2.2.2.2.2.2.2.2.2.2.2.2.2.2.2.2.2.1).length≤_;have:=h.log;omega,h.Ys⟩,hP,?_⟩;exact jr.more (xs:=[]) (by decide) (by show (d.2.2.2.2.2.1).length≤_;omega)
theorem R8 {n:Nat} {d:bZ} (h:kN n d) {c:Int} {ms:dC} (hr:js c ms) (hm:(d.1,())∈ms) (hd:d.2.1=false) (hc:d.2.2.2.2.2.2.2.2.2.2.2.2.2.2.2.2.2.2.1<c):kN (n+1) (tP d c ms)∧(tP d c ms).1=d.1:=by
 obtain ⟨g,_,hB⟩:=Bs h hr hm hd hc;unfold tP
 cases jT c ms [cC d c]
 ·exact ⟨g,rfl⟩
 ·have lO:¬c=0:=by have:=hr.1.1;omega
  obtain ⟨g1,g2⟩:=Gp (d:=bG d c ms) g.q lO hB h.Ys;refine ⟨⟨Lh g.q lO,Nat.zero_le _,?_,g2⟩,rfl⟩;show (x6 (bG d c ms)++[_]).length≤_;have:=h.log;have g1:_≤(d.2.2.2.2.2.2.2.2.2.2.2.2.2.2.2.2.2.2.2.2.2.2.2.1).length+62:=g1;omega
end Go.TM
set_option linter.unusedSimpArgs false
set_option linter.unusedVariables false
namespace Go.TM
open Go
def fU (d:bZ) (ms:dC) (b:dS):List dS:=(ms.filter fun m => !decide (m.1=d.1)).map fun _=>b
theorem CZ (d:bZ) (ms:dC) (b:dS) {k:Nat} (hk:k<ms.length):fU d (ms.take (k+1)) b=fU d (ms.take k) b++(bif !decide (ms[k].1=d.1) then [b] else []):=by
 unfold fU;rw [List.take_succ_eq_append_getElem hk,List.filter_append,List.map_append,List.filter_cons,List.filter_nil]
 cases decide (ms[k].1=d.1)<;>rfl
theorem Li (d:bZ) (ms:dC) (b:dS):(fU d ms b).length≤ms.length:=by
 unfold fU;rw [List.length_map];exact List.length_filter_le _ _
noncomputable def cR (d:bZ) (c:Int) (ms:dC):bZ×List dS×Bool:=bif x8 d c ms then (tP d c ms,fU d ms (cC d c),true) else (Eh,[],false)
theorem Us (d z o:bZ) (b:dS) (c:Int) (ms:dC) (hl:ms.length≤1048576) (hb:b.2.2.2.1.length≤1048576) :
  aJ kK (d.1,d.2.1,d.2.2.1,d.2.2.2.1,d.2.2.2.2.1,d.2.2.2.2.2.1,d.2.2.2.2.2.2.1,d.2.2.2.2.2.2.2.1,d.2.2.2.2.2.2.2.2.1,d.2.2.2.2.2.2.2.2.2.1,d.2.2.2.2.2.2.2.2.2.2.1,d.2.2.2.2.2.2.2.2.2.2.2.1,d.2.2.2.2.2.2.2.2.2.2.2.2.1,d.2.2.2.2.2.2.2.2.2.2.2.2.2.1,d.2.2.2.2.2.2.2.2.2.2.2.2.2.2.1,d.2.2.2.2.2.2.2.2.2.2.2.2.2.2.2.1,d.2.2.2.2.2.2.2.2.2.2.2.2.2.2.2.2.1,d.2.2.2.2.2.2.2.2.2.2.2.2.2.2.2.2.2.1,d.2.2.2.2.2.2.2.2.2.2.2.2.2.2.2.2.2.2.1,d.2.2.2.2.2.2.2.2.2.2.2.2.2.2.2.2.2.2.2.1,d.2.2.2.2.2.2.2.2.2.2.2.2.2.2.2.2.2.2.2.2.1,d.2.2.2.2.2.2.2.2.2.2.2.2.2.2.2.2.2.2.2.2.2.1,d.2.2.2.2.2.2.2.2.2.2.2.2.2.2.2.2.2.2.2.2.2.2.1,d.2.2.2.2.2.2.2.2.2.2.2.2.2.2.2.2.2.2.2.2.2.2.2.1,c,ms,z.1,z.2.1,z.2.2.1,z.2.2.2.1,z.2.2.2.2.1,z.2.2.2.2.2.1,z.2.2.2.2.2.2.1,z.2.2.2.2.2.2.2.1,z.2.2.2.2.2.2.2.2.1,z.2.2.2.2.2.2.2.2.2.1,z.2.2.2.2.2.2.2.2.2.2.1,z.2.2.2.2.2.2.2.2.2.2.2.1,z.2.2.2.2.2.2.2.2.2.2.2.2.1,z.2.2.2.2.2.2.2.2.2.2.2.2.2.1,z.2.2.2.2.2.2.2.2.2.2.2.2.2.2.1,z.2.2.2.2.2.2.2.2.2.2.2.2.2.2.2.1,z.2.2.2.2.2.2.2.2.2.2.2.2.2.2.2.2.1,z.2.2.2.2.2.2.2.2.2.2.2.2.2.2.2.2.2.1,z.2.2.2.2.2.2.2.2.2.2.2.2.2.2.2.2.2.2.1,z.2.2.2.2.2.2.2.2.2.2.2.2.2.2.2.2.2.2.2.1,z.2.2.2.2.2.2.2.2.2.2.2.2.2.2.2.2.2.2.2.2.1,z.2.2.2.2.2.2.2.2.2.2.2.2.2.2.2.2.2.2.2.2.2.1,z.2.2.2.2.2.2.2.2.2.2.2.2.2.2.2.2.2.2.2.2.2.2.1,z.2.2.2.2.2.2.2.2.2.2.2.2.2.2.2.2.2.2.2.2.2.2.2.1,[],o.1,o.2.1,o.2.2.1,o.2.2.2.1,o.2.2.2.2.1,o.2.2.2.2.2.1,o.2.2.2.2.2.2.1,o.2.2.2.2.2.2.2.1,o.2.2.2.2.2.2.2.2.1,o.2.2.2.2.2.2.2.2.2.1,o.2.2.2.2.2.2.2.2.2.2.1,o.2.2.2.2.2.2.2.2.2.2.2.1,o.2.2.2.2.2.2.2.2.2.2.2.2.1,o.2.2.2.2.2.2.2.2.2.2.2.2.2.1,o.2.2.2.2.2.2.2.2.2.2.2.2.2.2.1,o.2.2.2.2.2.2.2.2.2.2.2.2.2.2.2.1,o.2.2.2.2.2.2.2.2.2.2.2.2.2.2.2.2.1,o.2.2.2.2.2.2.2.2.2.2.2.2.2.2.2.2.2.1,o.2.2.2.2.2.2.2.2.2.2.2.2.2.2.2.2.2.2.1,o.2.2.2.2.2.2.2.2.2.2.2.2.2.2.2.2.2.2.2.1,o.2.2.2.2.2.2.2.2.2.2.2.2.2.2.2.2.2.2.2.2.1,o.2.2.2.2.2.2.2.2.2.2.2.2.2.2.2.2.2.2.2.2.2.1,o.2.2.2.2.2.2.2.2.2.2.2.2.2.2.2.2.2.2.2.2.2.2.1,o.2.2.2.2.2.2.2.2.2.2.2.2.2.2.2.2.2.2.2.2.2.2.2.1,b.1,b.2.1,b.2.2.1,b.2.2.2.1,(0:Int),())=some (.inl (z.1,z.2.1,z.2.2.1,z.2.2.2.1,z.2.2.2.2.1,z.2.2.2.2.2.1,z.2.2.2.2.2.2.1,z.2.2.2.2.2.2.2.1,z.2.2.2.2.2.2.2.2.1,z.2.2.2.2.2.2.2.2.2.1,z.2.2.2.2.2.2.2.2.2.2.1,z.2.2.2.2.2.2.2.2.2.2.2.1,z.2.2.2.2.2.2.2.2.2.2.2.2.1,z.2.2.2.2.2.2.2.2.2.2.2.2.2.1,z.2.2.2.2.2.2.2.2.2.2.2.2.2.2.1,z.2.2.2.2.2.2.2.2.2.2.2.2.2.2.2.1,z.2.2.2.2.2.2.2.2.2.2.2.2.2.2.2.2.1,z.2.2.2.2.2.2.2.2.2.2.2.2.2.2.2.2.2.1,z.2.2.2.2.2.2.2.2.2.2.2.2.2.2.2.2.2.2.1,z.2.2.2.2.2.2.2.2.2.2.2.2.2.2.2.2.2.2.2.1,z.2.2.2.2.2.2.2.2.2.2.2.2.2.2.2.2.2.2.2.2.1,z.2.2.2.2.2.2.2.2.2.2.2.2.2.2.2.2.2.2.2.2.2.1,z.2.2.2.2.2.2.2.2.2.2.2.2.2.2.2.2.2.2.2.2.2.2.1,z.2.2.2.2.2.2.2.2.2.2.2.2.2.2.2.2.2.2.2.2.2.2.2.1,fU d ms b,o.1,o.2.1,o.2.2.1,o.2.2.2.1,o.2.2.2.2.1,o.2.2.2.2.2.1,o.2.2.2.2.2.2.1,o.2.2.2.2.2.2.2.1,o.2.2.2.2.2.2.2.2.1,o.2.2.2.2.2.2.2.2.2.1,o.2.2.2.2.2.2.2.2.2.2.1,o.2.2.2.2.2.2.2.2.2.2.2.1,o.2.2.2.2.2.2.2.2.2.2.2.2.1,o.2.2.2.2.2.2.2.2.2.2.2.2.2.1,o.2.2.2.2.2.2.2.2.2.2.2.2.2.2.1,o.2.2.2.2.2.2.2.2.2.2.2.2.2.2.2.1,o.2.2.2.2.2.2.2.2.2.2.2.2.2.2.2.2.1,o.2.2.2.2.2.2.2.2.2.2.2.2.2.2.2.2.2.1,o.2.2.2.2.2.2.2.2.2.2.2.2.2.2.2.2.2.2.1,o.2.2.2.2.2.2.2.2.2.2.2.2.2.2.2.2.2.2.2.1,o.2.2.2.2.2.2.2.2.2.2.2.2.2.2.2.2.2.2.2.2.1,o.2.2.2.2.2.2.2.2.2.2.2.2.2.2.2.2.2.2.2.2.2.1,o.2.2.2.2.2.2.2.2.2.2.2.2.2.2.2.2.2.2.2.2.2.2.1,o.2.2.2.2.2.2.2.2.2.2.2.2.2.2.2.2.2.2.2.2.2.2.2.1,())):=by
 have l1:=ck (round:=kK) (e:=.inl (z.1,z.2.1,z.2.2.1,z.2.2.2.1,z.2.2.2.2.1,z.2.2.2.2.2.1,z.2.2.2.2.2.2.1,z.2.2.2.2.2.2.2.1,z.2.2.2.2.2.2.2.2.1,z.2.2.2.2.2.2.2.2.2.1,z.2.2.2.2.2.2.2.2.2.2.1,z.2.2.2.2.2.2.2.2.2.2.2.1,z.2.2.2.2.2.2.2.2.2.2.2.2.1,z.2.2.2.2.2.2.2.2.2.2.2.2.2.1,z.2.2.2.2.2.2.2.2.2.2.2.2.2.2.1,z.2.2.2.2.2.2.2.2.2.2.2.2.2.2.2.1,z.2.2.2.2.2.2.2.2.2.2.2.2.2.2.2.2.1,z.2.2.2.2.2.2.2.2.2.2.2.2.2.2.2.2.2.1,z.2.2.2.2.2.2.2.2.2.2.2.2.2.2.2.2.2.2.1,z.2.2.2.2.2.2.2.2.2.2.2.2.2.2.2.2.2.2.2.1,z.2.2.2.2.2.2.2.2.2.2.2.2.2.2.2.2.2.2.2.2.1,z.2.2.2.2.2.2.2.2.2.2.2.2.2.2.2.2.2.2.2.2.2.1,z.2.2.2.2.2.2.2.2.2.2.2.2.2.2.2.2.2.2.2.2.2.2.1,z.2.2.2.2.2.2.2.2.2.2.2.2.2.2.2.2.2.2.2.2.2.2.2.1,fU d ms b,o.1,o.2.1,o.2.2.1,o.2.2.2.1,o.2.2.2.2.1,o.2.2.2.2.2.1,o.2.2.2.2.2.2.1,o.2.2.2.2.2.2.2.1,o.2.2.2.2.2.2.2.2.1,o.2.2.2.2.2.2.2.2.2.1,o.2.2.2.2.2.2.2.2.2.2.1,o.2.2.2.2.2.2.2.2.2.2.2.1,o.2.2.2.2.2.2.2.2.2.2.2.2.1,o.2.2.2.2.2.2.2.2.2.2.2.2.2.1,o.2.2.2.2.2.2.2.2.2.2.2.2.2.2.1,o.2.2.2.2.2.2.2.2.2.2.2.2.2.2.2.1,o.2.2.2.2.2.2.2.2.2.2.2.2.2.2.2.2.1,o.2.2.2.2.2.2.2.2.2.2.2.2.2.2.2.2.2.1,o.2.2.2.2.2.2.2.2.2.2.2.2.2.2.2.2.2.2.1,o.2.2.2.2.2.2.2.2.2.2.2.2.2.2.2.2.2.2.2.1,o.2.2.2.2.2.2.2.2.2.2.2.2.2.2.2.2.2.2.2.2.1,o.2.2.2.2.2.2.2.2.2.2.2.2.2.2.2.2.2.2.2.2.2.1,o.2.2.2.2.2.2.2.2.2.2.2.2.2.2.2.2.2.2.2.2.2.2.1,o.2.2.2.2.2.2.2.2.2.2.2.2.2.2.2.2.2.2.2.2.2.2.2.1,())) ms.length (fun k=>(d.1,d.2.1,d.2.2.1,d.2.2.2.1,d.2.2.2.2.1,d.2.2.2.2.2.1,d.2.2.2.2.2.2.1,d.2.2.2.2.2.2.2.1,d.2.2.2.2.2.2.2.2.1,d.2.2.2.2.2.2.2.2.2.1,d.2.2.2.2.2.2.2.2.2.2.1,d.2.2.2.2.2.2.2.2.2.2.2.1,d.2.2.2.2.2.2.2.2.2.2.2.2.1,d.2.2.2.2.2.2.2.2.2.2.2.2.2.1,d.2.2.2.2.2.2.2.2.2.2.2.2.2.2.1,d.2.2.2.2.2.2.2.2.2.2.2.2.2.2.2.1,d.2.2.2.2.2.2.2.2.2.2.2.2.2.2.2.2.1,d.2.2.2.2.2.2.2.2.2.2.2.2.2.2.2.2.2.1,d.2.2.2.2.2.2.2.2.2.2.2.2.2.2.2.2.2.2.1,d.2.2.2.2.2.2.2.2.2.2.2.2.2.2.2.2.2.2.2.1,d.2.2.2.2.2.2.2.2.2.2.2.2.2.2.2.2.2.2.2.2.1,d.2.2.2.2.2.2.2.2.2.2.2.2.2.2.2.2.2.2.2.2.2.1,d.2.2.2.2.2.2.2.2.2.2.2.2.2.2.2.2.2.2.2.2.2.2.1,d.2.2.2.2.2.2.2.2.2.2.2.2.2.2.2.2.2.2.2.2.2.2.2.1,c,ms,z.1,z.2.1,z.2.2.1,z.2.2.2.1,z.2.2.2.2.1,z.2.2.2.2.2.1,z.2.2.2.2.2.2.1,z.2.2.2.2.2.2.2.1,z.2.2.2.2.2.2.2.2.1,z.2.2.2.2.2.2.2.2.2.1,z.2.2.2.2.2.2.2.2.2.2.1,z.2.2.2.2.2.2.2.2.2.2.2.1,z.2.2.2.2.2.2.2.2.2.2.2.2.1,z.2.2.2.2.2.2.2.2.2.2.2.2.2.1,z.2.2.2.2.2.2.2.2.2.2.2.2.2.2.1,z.2.2.2.2.2.2.2.2.2.2.2.2.2.2.2.1,z.2.2.2.2.2.2.2.2.2.2.2.2.2.2.2.2.1,z.2.2.2.2.2.2.2.2.2.2.2.2.2.2.2.2.2.1,z.2.2.2.2.2.2.2.2.2.2.2.2.2.2.2.2.2.2.1,z.2.2.2.2.2.2.2.2.2.2.2.2.2.2.2.2.2.2.2.1,z.2.2.2.2.2.2.2.2.2.2.2.2.2.2.2.2.2.2.2.2.1,z.2.2.2.2.2.2.2.2.2.2.2.2.2.2.2.2.2.2.2.2.2.1,z.2.2.2.2.2.2.2.2.2.2.2.2.2.2.2.2.2.2.2.2.2.2.1,z.2.2.2.2.2.2.2.2.2.2.2.2.2.2.2.2.2.2.2.2.2.2.2.1,fU d (ms.take k) b,o.1,o.2.1,o.2.2.1,o.2.2.2.1,o.2.2.2.2.1,o.2.2.2.2.2.1,o.2.2.2.2.2.2.1,o.2.2.2.2.2.2.2.1,o.2.2.2.2.2.2.2.2.1,o.2.2.2.2.2.2.2.2.2.1,o.2.2.2.2.2.2.2.2.2.2.1,o.2.2.2.2.2.2.2.2.2.2.2.1,o.2.2.2.2.2.2.2.2.2.2.2.2.1,o.2.2.2.2.2.2.2.2.2.2.2.2.2.1,o.2.2.2.2.2.2.2.2.2.2.2.2.2.2.1,o.2.2.2.2.2.2.2.2.2.2.2.2.2.2.2.1,o.2.2.2.2.2.2.2.2.2.2.2.2.2.2.2.2.1,o.2.2.2.2.2.2.2.2.2.2.2.2.2.2.2.2.2.1,o.2.2.2.2.2.2.2.2.2.2.2.2.2.2.2.2.2.2.1,o.2.2.2.2.2.2.2.2.2.2.2.2.2.2.2.2.2.2.2.1,o.2.2.2.2.2.2.2.2.2.2.2.2.2.2.2.2.2.2.2.2.1,o.2.2.2.2.2.2.2.2.2.2.2.2.2.2.2.2.2.2.2.2.2.1,o.2.2.2.2.2.2.2.2.2.2.2.2.2.2.2.2.2.2.2.2.2.2.1,o.2.2.2.2.2.2.2.2.2.2.2.2.2.2.2.2.2.2.2.2.2.2.2.1,b.1,b.2.1,b.2.2.1,b.2.2.2.1,((k:Nat):Int),())) (by
  simp only [kK,az,za,aA,aM,cond_false,List.take_length]) (fun k hk=>by
  have ht:=Li d (ms.take k) b;rw [List.length_take] at ht;simp only [kK,az,za,aA,aE hk,ax,cond_true,aF,List.getElem?_eq_getElem hk,Option.bind_some,(jt b hb).1,aT (show ((fU d (ms.take k) b).length+1)*48≤lim by unfold lim;omega),aN (show k<4611686018427387904 by omega),CZ d ms b hk]
  cases decide (ms[k].1=d.1)
  ·rfl
  ·simp only [Bool.not_true,cond_false,List.append_nil])
 exact l1
theorem IT {n:Nat} {d:bZ} (h:kN n d) (hn:n≤99) (c:Int) (ms:dC) (hl:ms.length≤1048576):od d.1 d.2.1 d.2.2.1 d.2.2.2.1 d.2.2.2.2.1 d.2.2.2.2.2.1 d.2.2.2.2.2.2.1 d.2.2.2.2.2.2.2.1 d.2.2.2.2.2.2.2.2.1 d.2.2.2.2.2.2.2.2.2.1 d.2.2.2.2.2.2.2.2.2.2.1 d.2.2.2.2.2.2.2.2.2.2.2.1 d.2.2.2.2.2.2.2.2.2.2.2.2.1 d.2.2.2.2.2.2.2.2.2.2.2.2.2.1 d.2.2.2.2.2.2.2.2.2.2.2.2.2.2.1 d.2.2.2.2.2.2.2.2.2.2.2.2.2.2.2.1 d.2.2.2.2.2.2.2.2.2.2.2.2.2.2.2.2.1 d.2.2.2.2.2.2.2.2.2.2.2.2.2.2.2.2.2.1 d.2.2.2.2.2.2.2.2.2.2.2.2.2.2.2.2.2.2.1 d.2.2.2.2.2.2.2.2.2.2.2.2.2.2.2.2.2.2.2.1 d.2.2.2.2.2.2.2.2.2.2.2.2.2.2.2.2.2.2.2.2.1 d.2.2.2.2.2.2.2.2.2.2.2.2.2.2.2.2.2.2.2.2.2.1 d.2.2.2.2.2.2.2.2.2.2.2.2.2.2.2.2.2.2.2.2.2.2.1 d.2.2.2.2.2.2.2.2.2.2.2.2.2.2.2.2.2.2.2.2.2.2.2.1 c ms=some ((cR d c ms).1.1,(cR d c ms).1.2.1,(cR d c ms).1.2.2.1,(cR d c ms).1.2.2.2.1,(cR d c ms).1.2.2.2.2.1,(cR d c ms).1.2.2.2.2.2.1,(cR d c ms).1.2.2.2.2.2.2.1,(cR d c ms).1.2.2.2.2.2.2.2.1,(cR d c ms).1.2.2.2.2.2.2.2.2.1,(cR d c ms).1.2.2.2.2.2.2.2.2.2.1,(cR d c ms).1.2.2.2.2.2.2.2.2.2.2.1,(cR d c ms).1.2.2.2.2.2.2.2.2.2.2.2.1,(cR d c ms).1.2.2.2.2.2.2.2.2.2.2.2.2.1,(cR d c ms).1.2.2.2.2.2.2.2.2.2.2.2.2.2.1,(cR d c ms).1.2.2.2.2.2.2.2.2.2.2.2.2.2.2.1,(cR d c ms).1.2.2.2.2.2.2.2.2.2.2.2.2.2.2.2.1,(cR d c ms).1.2.2.2.2.2.2.2.2.2.2.2.2.2.2.2.2.1,(cR d c ms).1.2.2.2.2.2.2.2.2.2.2.2.2.2.2.2.2.2.1,(cR d c ms).1.2.2.2.2.2.2.2.2.2.2.2.2.2.2.2.2.2.2.1,(cR d c ms).1.2.2.2.2.2.2.2.2.2.2.2.2.2.2.2.2.2.2.2.1,(cR d c ms).1.2.2.2.2.2.2.2.2.2.2.2.2.2.2.2.2.2.2.2.2.1,(cR d c ms).1.2.2.2.2.2.2.2.2.2.2.2.2.2.2.2.2.2.2.2.2.2.1,(cR d c ms).1.2.2.2.2.2.2.2.2.2.2.2.2.2.2.2.2.2.2.2.2.2.2.1,(cR d c ms).1.2.2.2.2.2.2.2.2.2.2.2.2.2.2.2.2.2.2.2.2.2.2.2.1,(cR d c ms).2.1,(cR d c ms).2.2,()):=by
 have hW:=h.small (by omega);obtain ⟨k1,_,k3⟩:=j6 d hW;obtain ⟨r1,_,r3⟩:=ou c ms hl;have i1:=zw ms d.1 hl;have p1:=(uJ d hW).1;have cr:=mU c ms hl;unfold od cR x8;delta az cV bI;simp only [k1,r1,i1,p1,cr,Option.bind_some]
 cases h1:jd d
 ·rfl
 cases h2:d.2.1
 case true=>rfl
 cases h3:qS c ms
 ·rfl
 cases h4:decide ((d.1,())∈ms)
 ·rfl
 cases h5:decide (c≤d.2.2.2.2.2.2.2.2.2.2.2.2.2.2.2.2.2.2.1)
 case true=>rfl
 have hr:=r3.1 h3;have hm:=of_decide_eq_true h4;have hc:d.2.2.2.2.2.2.2.2.2.2.2.2.2.2.2.2.2.2.1<c:=by have:=of_decide_eq_false h5;omega
 obtain ⟨g,hP,hB⟩:=Bs h hr hm h2 hc;obtain ⟨gm,_⟩:=R8 h hr hm h2 hc;have pm:=(uJ (tP d c ms) (gm.small (by omega))).1;have Un:(d.2.2.2.2.2.1).length≤60:=(uY hP).1;have l1:=Us d Eh (bG d c ms) (cC d c) c ms hl (by show (d.2.2.2.2.2.1).length≤_;omega);have l1:aJ kK (d.1,d.2.1,d.2.2.1,d.2.2.2.1,d.2.2.2.2.1,d.2.2.2.2.2.1,d.2.2.2.2.2.2.1,d.2.2.2.2.2.2.2.1,d.2.2.2.2.2.2.2.2.1,d.2.2.2.2.2.2.2.2.2.1,d.2.2.2.2.2.2.2.2.2.2.1,d.2.2.2.2.2.2.2.2.2.2.2.1,d.2.2.2.2.2.2.2.2.2.2.2.2.1,d.2.2.2.2.2.2.2.2.2.2.2.2.2.1,d.2.2.2.2.2.2.2.2.2.2.2.2.2.2.1,d.2.2.2.2.2.2.2.2.2.2.2.2.2.2.2.1,d.2.2.2.2.2.2.2.2.2.2.2.2.2.2.2.2.1,d.2.2.2.2.2.2.2.2.2.2.2.2.2.2.2.2.2.1,d.2.2.2.2.2.2.2.2.2.2.2.2.2.2.2.2.2.2.1,d.2.2.2.2.2.2.2.2.2.2.2.2.2.2.2.2.2.2.2.1,d.2.2.2.2.2.2.2.2.2.2.2.2.2.2.2.2.2.2.2.2.1,d.2.2.2.2.2.2.2.2.2.2.2.2.2.2.2.2.2.2.2.2.2.1,d.2.2.2.2.2.2.2.2.2.2.2.2.2.2.2.2.2.2.2.2.2.2.1,d.2.2.2.2.2.2.2.2.2.2.2.2.2.2.2.2.2.2.2.2.2.2.2.1,c,ms,0,false,0,0,[],[],[],[],0,0,0,0,0,0,0,0,0,[],0,0,0,[],[],[],[],d.1,d.2.1,d.2.2.1,d.2.2.2.1,d.2.2.2.2.1,d.2.2.2.2.2.1,d.2.2.2.2.2.2.1,d.2.2.2.2.2.2.2.1,d.2.2.2.2.2.2.2.2.1,d.2.2.2.2.2.2.2.2.2.1,d.2.2.2.2.2.2.2.2.2.2.1,d.2.2.2.2.2.2.2.2.2.2.2.1,d.2.2.2.2.2.2.2.2.2.2.2.2.1,d.2.2.2.2.2.2.2.2.2.2.2.2.2.1,d.2.2.2.2.2.2.2.2.2.2.2.2.2.2.1,d.2.2.2.2.2.2.2.2.2.2.2.2.2.2.2.1,d.2.2.2.2.2.2.2.2.2.2.2.2.2.2.2.2.1,d.2.2.2.2.2.2.2.2.2.2.2.2.2.2.2.2.2.1,c,d.2.2.2.2.2.2.2.2.2.2.2.2.2.2.2.2.2.2.2.1,c,ms,[(d.1,c,d.2.2.2.2.2.2.2.2.2.2.2.2.2.2.2.2.2.2.2.1,d.2.2.2.2.2.1,())],d.2.2.2.2.2.2.2.2.2.2.2.2.2.2.2.2.2.2.2.2.2.2.2.1,d.1,c,d.2.2.2.2.2.2.2.2.2.2.2.2.2.2.2.2.2.2.2.1,d.2.2.2.2.2.1,(0:Int),())=_:=l1;have ah:=(Eg c ms [cC d c] hl hB).1;have hg:(d.2.2.2.2.2.2.2.2.2.2.2.2.2.2.2.2.2.2.2.2.2.2.2.1).length≤1048576:=by have:=h.log;omega
 have iv:=(uL (bG d c ms) hr hm hB (by show (d.2.2.2.2.1).length≤_;have:=(zK h.q).1;omega) hg).1;rw [h2] at l1;obtain ⟨o,ho⟩:∃o,o=bG d c ms:=⟨_,rfl⟩;have ah:kI o.2.2.2.2.2.2.2.2.2.2.2.2.2.2.2.2.2.2.2.2.1 o.2.2.2.2.2.2.2.2.2.2.2.2.2.2.2.2.2.2.2.2.2.1 o.2.2.2.2.2.2.2.2.2.2.2.2.2.2.2.2.2.2.2.2.2.2.1=some (jT c ms [cC d c],()):=by rw [ho];exact ah
 rw [←ho] at iv l1;unfold tP at pm ⊢;rw [←ho] at pm ⊢;simp only [Bool.not_true,Bool.not_false,Bool.and_self,cond_false,cond_true,List.nil_append,aT (show (0+(d.2.2.2.2.2.1).length)*40≤lim by unfold lim;omega),l1,cg,Option.bind_some,ah]
 cases hh:jT c ms [cC d c]
 ·rw [hh] at pm;simp only [cond_false] at pm ⊢;rw [pm];rfl
 ·rw [hh] at pm;simp only [cond_true] at pm ⊢;rw [iv];simp only [Option.bind_some];rw [pm];rfl
end Go.TM
set_option linter.unusedSimpArgs false
set_option linter.unusedVariables false
namespace Go.TM
open Go
theorem FE {ms:dC} (h:Om ms ms.length) {i j:Nat} (hj:j<ms.length) (Yi:i<j):(ms[i]'(by omega)).1<ms[j].1:=by
 have key:∀(d i:Nat) (hi:i+d+1<ms.length),ms[i].1<ms[i+d+1].1:=by
  intro d
  induction d with
  |zero=>intro i hi;exact (h (i+1) hi hi).2 (by omega)
  |succ d ih=>
   intro i hi;have h1:=ih i (by omega);have h2:=(h (i+(d+1)+1) hi hi).2 (by omega);have e:i+(d+1)+1-1=i+d+1:=by omega
   simp only [e] at h2;omega
 have:=key (j-i-1) i (by omega);simpa [show i+(j-i-1)+1=j by omega] using this
theorem filter_one {ms:dC} (h:Om ms ms.length) {id:Int} (hm:(id,())∈ms):(ms.filter fun m => !decide (m.1=id)).length=ms.length-1:=by
 obtain ⟨k,hk,e⟩:=List.mem_iff_getElem.1 hm;have e:ms[k].1=id:=congrArg Prod.fst e;have h1:(ms.take k).filter (fun m => !decide (m.1=id))=ms.take k:=List.filter_eq_self.2 fun x hx=>by
  obtain ⟨i,hi,rfl⟩:=List.mem_iff_getElem.1 hx;rw [List.length_take] at hi;rw [List.getElem_take];have:=FE h hk (show i<k by omega);rw [decide_eq_false (show ¬(ms[i]'(by omega)).1=id by omega)];rfl
 have h2:(ms.drop (k+1)).filter (fun m => !decide (m.1=id))=ms.drop (k+1):=List.filter_eq_self.2 fun x hx=>by
  obtain ⟨i,hi,rfl⟩:=List.mem_iff_getElem.1 hx;rw [List.length_drop] at hi;rw [List.getElem_drop];have:=FE h (show k+1+i<ms.length by omega) (show k<k+1+i by omega);rw [decide_eq_false (show ¬(ms[k+1+i]'(by omega)).1=id by omega)];rfl
 have h3:ms=ms.take k++ms[k]::ms.drop (k+1):=by rw [←List.drop_eq_getElem_cons hk,List.take_append_drop]
 have h4:ms.filter (fun m => !decide (m.1=id))=ms.take k++ms.drop (k+1):=by
  rw [h3,List.filter_append,List.filter_cons,decide_eq_true e,←h3];simp only [Bool.not_true,Bool.false_eq_true,if_false];rw [h1,h2]
 rw [h4,List.length_append,List.length_take,List.length_drop];omega
theorem Lj {d:bZ} {ms:dC} (h:Om ms ms.length) (hm:(d.1,())∈ms) (b:dS):fU d ms b=List.replicate (ms.length-1) b:=by
 unfold fU;rw [List.map_const',filter_one h hm]
theorem QS (z o:bZ) (b:dS) (c:Int) (ms:dC) (m:Nat) (hl:m≤1048576) (hb:b.2.2.2.1.length≤1048576) :
  aJ kL (c,ms,z.1,z.2.1,z.2.2.1,z.2.2.2.1,z.2.2.2.2.1,z.2.2.2.2.2.1,z.2.2.2.2.2.2.1,z.2.2.2.2.2.2.2.1,z.2.2.2.2.2.2.2.2.1,z.2.2.2.2.2.2.2.2.2.1,z.2.2.2.2.2.2.2.2.2.2.1,z.2.2.2.2.2.2.2.2.2.2.2.1,z.2.2.2.2.2.2.2.2.2.2.2.2.1,z.2.2.2.2.2.2.2.2.2.2.2.2.2.1,z.2.2.2.2.2.2.2.2.2.2.2.2.2.2.1,z.2.2.2.2.2.2.2.2.2.2.2.2.2.2.2.1,z.2.2.2.2.2.2.2.2.2.2.2.2.2.2.2.2.1,z.2.2.2.2.2.2.2.2.2.2.2.2.2.2.2.2.2.1,z.2.2.2.2.2.2.2.2.2.2.2.2.2.2.2.2.2.2.1,z.2.2.2.2.2.2.2.2.2.2.2.2.2.2.2.2.2.2.2.1,z.2.2.2.2.2.2.2.2.2.2.2.2.2.2.2.2.2.2.2.2.1,z.2.2.2.2.2.2.2.2.2.2.2.2.2.2.2.2.2.2.2.2.2.1,z.2.2.2.2.2.2.2.2.2.2.2.2.2.2.2.2.2.2.2.2.2.2.1,z.2.2.2.2.2.2.2.2.2.2.2.2.2.2.2.2.2.2.2.2.2.2.2.1,o.1,o.2.1,o.2.2.1,o.2.2.2.1,o.2.2.2.2.1,o.2.2.2.2.2.1,o.2.2.2.2.2.2.1,o.2.2.2.2.2.2.2.1,o.2.2.2.2.2.2.2.2.1,o.2.2.2.2.2.2.2.2.2.1,o.2.2.2.2.2.2.2.2.2.2.1,o.2.2.2.2.2.2.2.2.2.2.2.1,o.2.2.2.2.2.2.2.2.2.2.2.2.1,o.2.2.2.2.2.2.2.2.2.2.2.2.2.1,o.2.2.2.2.2.2.2.2.2.2.2.2.2.2.1,o.2.2.2.2.2.2.2.2.2.2.2.2.2.2.2.1,o.2.2.2.2.2.2.2.2.2.2.2.2.2.2.2.2.1,o.2.2.2.2.2.2.2.2.2.2.2.2.2.2.2.2.2.1,o.2.2.2.2.2.2.2.2.2.2.2.2.2.2.2.2.2.2.1,o.2.2.2.2.2.2.2.2.2.2.2.2.2.2.2.2.2.2.2.1,o.2.2.2.2.2.2.2.2.2.2.2.2.2.2.2.2.2.2.2.2.1,o.2.2.2.2.2.2.2.2.2.2.2.2.2.2.2.2.2.2.2.2.2.1,o.2.2.2.2.2.2.2.2.2.2.2.2.2.2.2.2.2.2.2.2.2.2.1,o.2.2.2.2.2.2.2.2.2.2.2.2.2.2.2.2.2.2.2.2.2.2.2.1,b.1,b.2.1,b.2.2.1,b.2.2.2.1,[],((m:Nat):Int),(0:Int),())=some (.inl (c,ms,z.1,z.2.1,z.2.2.1,z.2.2.2.1,z.2.2.2.2.1,z.2.2.2.2.2.1,z.2.2.2.2.2.2.1,z.2.2.2.2.2.2.2.1,z.2.2.2.2.2.2.2.2.1,z.2.2.2.2.2.2.2.2.2.1,z.2.2.2.2.2.2.2.2.2.2.1,z.2.2.2.2.2.2.2.2.2.2.2.1,z.2.2.2.2.2.2.2.2.2.2.2.2.1,z.2.2.2.2.2.2.2.2.2.2.2.2.2.1,z.2.2.2.2.2.2.2.2.2.2.2.2.2.2.1,z.2.2.2.2.2.2.2.2.2.2.2.2.2.2.2.1,z.2.2.2.2.2.2.2.2.2.2.2.2.2.2.2.2.1,z.2.2.2.2.2.2.2.2.2.2.2.2.2.2.2.2.2.1,z.2.2.2.2.2.2.2.2.2.2.2.2.2.2.2.2.2.2.1,z.2.2.2.2.2.2.2.2.2.2.2.2.2.2.2.2.2.2.2.1,z.2.2.2.2.2.2.2.2.2.2.2.2.2.2.2.2.2.2.2.2.1,z.2.2.2.2.2.2.2.2.2.2.2.2.2.2.2.2.2.2.2.2.2.1,z.2.2.2.2.2.2.2.2.2.2.2.2.2.2.2.2.2.2.2.2.2.2.1,z.2.2.2.2.2.2.2.2.2.2.2.2.2.2.2.2.2.2.2.2.2.2.2.1,o.1,o.2.1,o.2.2.1,o.2.2.2.1,o.2.2.2.2.1,o.2.2.2.2.2.1,o.2.2.2.2.2.2.1,o.2.2.2.2.2.2.2.1,o.2.2.2.2.2.2.2.2.1,o.2.2.2.2.2.2.2.2.2.1,o.2.2.2.2.2.2.2.2.2.2.1,o.2.2.2.2.2.2.2.2.2.2.2.1,o.2.2.2.2.2.2.2.2.2.2.2.2.1,o.2.2.2.2.2.2.2.2.2.2.2.2.2.1,o.2.2.2.2.2.2.2.2.2.2.2.2.2.2.1,o.2.2.2.2.2.2.2.2.2.2.2.2.2.2.2.1,o.2.2.2.2.2.2.2.2.2.2.2.2.2.2.2.2.1,o.2.2.2.2.2.2.2.2.2.2.2.2.2.2.2.2.2.1,o.2.2.2.2.2.2.2.2.2.2.2.2.2.2.2.2.2.2.1,o.2.2.2.2.2.2.2.2.2.2.2.2.2.2.2.2.2.2.2.1,o.2.2.2.2.2.2.2.2.2.2.2.2.2.2.2.2.2.2.2.2.1,o.2.2.2.2.2.2.2.2.2.2.2.2.2.2.2.2.2.2.2.2.2.1,o.2.2.2.2.2.2.2.2.2.2.2.2.2.2.2.2.2.2.2.2.2.2.1,o.2.2.2.2.2.2.2.2.2.2.2.2.2.2.2.2.2.2.2.2.2.2.2.1,List.replicate m b,())):=by
 have l1:=ck (round:=kL) (e:=.inl (c,ms,z.1,z.2.1,z.2.2.1,z.2.2.2.1,z.2.2.2.2.1,z.2.2.2.2.2.1,z.2.2.2.2.2.2.1,z.2.2.2.2.2.2.2.1,z.2.2.2.2.2.2.2.2.1,z.2.2.2.2.2.2.2.2.2.1,z.2.2.2.2.2.2.2.2.2.2.1,z.2.2.2.2.2.2.2.2.2.2.2.1,z.2.2.2.2.2.2.2.2.2.2.2.2.1,z.2.2.2.2.2.2.2.2.2.2.2.2.2.1,z.2.2.2.2.2.2.2.2.2.2.2.2.2.2.1,z.2.2.2.2.2.2.2.2.2.2.2.2.2.2.2.1,z.2.2.2.2.2.2.2.2.2.2.2.2.2.2.2.2.1,z.2.2.2.2.2.2.2.2.2.2.2.2.2.2.2.2.2.1,z.2.2.2.2.2.2.2.2.2.2.2.2.2.2.2.2.2.2.1,z.2.2.2.2.2.2.2.2.2.2.2.2.2.2.2.2.2.2.2.1,z.2.2.2.2.2.2.2.2.2.2.2.2.2.2.2.2.2.2.2.2.1,z.2.2.2.2.2.2.2.2.2.2.2.2.2.2.2.2.2.2.2.2.2.1,z.2.2.2.2.2.2.2.2.2.2.2.2.2.2.2.2.2.2.2.2.2.2.1,z.2.2.2.2.2.2.2.2.2.2.2.2.2.2.2.2.2.2.2.2.2.2.2.1,o.1,o.2.1,o.2.2.1,o.2.2.2.1,o.2.2.2.2.1,o.2.2.2.2.2.1,o.2.2.2.2.2.2.1,o.2.2.2.2.2.2.2.1,o.2.2.2.2.2.2.2.2.1,o.2.2.2.2.2.2.2.2.2.1,o.2.2.2.2.2.2.2.2.2.2.1,o.2.2.2.2.2.2.2.2.2.2.2.1,o.2.2.2.2.2.2.2.2.2.2.2.2.1,o.2.2.2.2.2.2.2.2.2.2.2.2.2.1,o.2.2.2.2.2.2.2.2.2.2.2.2.2.2.1,o.2.2.2.2.2.2.2.2.2.2.2.2.2.2.2.1,o.2.2.2.2.2.2.2.2.2.2.2.2.2.2.2.2.1,o.2.2.2.2.2.2.2.2.2.2.2.2.2.2.2.2.2.1,o.2.2.2.2.2.2.2.2.2.2.2.2.2.2.2.2.2.2.1,o.2.2.2.2.2.2.2.2.2.2.2.2.2.2.2.2.2.2.2.1,o.2.2.2.2.2.2.2.2.2.2.2.2.2.2.2.2.2.2.2.2.1,o.2.2.2.2.2.2.2.2.2.2.2.2.2.2.2.2.2.2.2.2.2.1,o.2.2.2.2.2.2.2.2.2.2.2.2.2.2.2.2.2.2.2.2.2.2.1,o.2.2.2.2.2.2.2.2.2.2.2.2.2.2.2.2.2.2.2.2.2.2.2.1,List.replicate m b,())) m (fun k=>(c,ms,z.1,z.2.1,z.2.2.1,z.2.2.2.1,z.2.2.2.2.1,z.2.2.2.2.2.1,z.2.2.2.2.2.2.1,z.2.2.2.2.2.2.2.1,z.2.2.2.2.2.2.2.2.1,z.2.2.2.2.2.2.2.2.2.1,z.2.2.2.2.2.2.2.2.2.2.1,z.2.2.2.2.2.2.2.2.2.2.2.1,z.2.2.2.2.2.2.2.2.2.2.2.2.1,z.2.2.2.2.2.2.2.2.2.2.2.2.2.1,z.2.2.2.2.2.2.2.2.2.2.2.2.2.2.1,z.2.2.2.2.2.2.2.2.2.2.2.2.2.2.2.1,z.2.2.2.2.2.2.2.2.2.2.2.2.2.2.2.2.1,z.2.2.2.2.2.2.2.2.2.2.2.2.2.2.2.2.2.1,z.2.2.2.2.2.2.2.2.2.2.2.2.2.2.2.2.2.2.1,z.2.2.2.2.2.2.2.2.2.2.2.2.2.2.2.2.2.2.2.1,z.2.2.2.2.2.2.2.2.2.2.2.2.2.2.2.2.2.2.2.2.1,z.2.2.2.2.2.2.2.2.2.2.2.2.2.2.2.2.2.2.2.2.2.1,z.2.2.2.2.2.2.2.2.2.2.2.2.2.2.2.2.2.2.2.2.2.2.1,z.2.2.2.2.2.2.2.2.2.2.2.2.2.2.2.2.2.2.2.2.2.2.2.1,o.1,o.2.1,o.2.2.1,o.2.2.2.1,o.2.2.2.2.1,o.2.2.2.2.2.1,o.2.2.2.2.2.2.1,o.2.2.2.2.2.2.2.1,o.2.2.2.2.2.2.2.2.1,o.2.2.2.2.2.2.2.2.2.1,o.2.2.2.2.2.2.2.2.2.2.1,o.2.2.2.2.2.2.2.2.2.2.2.1,o.2.2.2.2.2.2.2.2.2.2.2.2.1,o.2.2.2.2.2.2.2.2.2.2.2.2.2.1,o.2.2.2.2.2.2.2.2.2.2.2.2.2.2.1,o.2.2.2.2.2.2.2.2.2.2.2.2.2.2.2.1,o.2.2.2.2.2.2.2.2.2.2.2.2.2.2.2.2.1,o.2.2.2.2.2.2.2.2.2.2.2.2.2.2.2.2.2.1,o.2.2.2.2.2.2.2.2.2.2.2.2.2.2.2.2.2.2.1,o.2.2.2.2.2.2.2.2.2.2.2.2.2.2.2.2.2.2.2.1,o.2.2.2.2.2.2.2.2.2.2.2.2.2.2.2.2.2.2.2.2.1,o.2.2.2.2.2.2.2.2.2.2.2.2.2.2.2.2.2.2.2.2.2.1,o.2.2.2.2.2.2.2.2.2.2.2.2.2.2.2.2.2.2.2.2.2.2.1,o.2.2.2.2.2.2.2.2.2.2.2.2.2.2.2.2.2.2.2.2.2.2.2.1,b.1,b.2.1,b.2.2.1,b.2.2.2.1,List.replicate k b,((m:Nat):Int),((k:Nat):Int),())) (by
  simp only [kL,az,zj,aA,aM,cond_false]) (fun k hk=>by
  simp only [kL,az,zj,aA,aE hk,cond_true];rw [(jt b hb).2];simp only [Option.bind_some,List.length_replicate,aT (show (k+1)*48≤lim by unfold lim;omega),cond_true,aN (show k<4611686018427387904 by omega),List.replicate_succ'])
 exact l1
theorem OL {d:bZ} {c:Int} {ms:dC} (hr:js c ms) (hm:(d.1,())∈ms) (hP:B6 (cC d c)) (hb:(d.2.2.2.2.2.1).length≤1048576):jT c ms [cC d c]=decide (((List.length ms:Nat):Int)=1):=by
 have iP:lM (cC d c)=true:=(Ee (cC d c) hb).2 hP;have hat:∀x:Int,(fT [cC d c] c x).isSome=decide (d.1=x):=fun x=>by
  unfold fT;rw [List.find?_cons,List.find?_nil,iP];show (match decide (d.1=x)&&(decide (c=c)&&true) with | true=>some (cC d c) | false=>none).isSome=_;rw [decide_eq_true (rfl:c=c)]
  cases decide (d.1=x)<;>rfl
 have hl:=hr.2.1.1;unfold jT
 by_cases h1:ms.length=1
 ·rw [ak (show ((List.length ms:Nat):Int)=1 by omega)];refine List.all_eq_true.2 fun x hx => ?_
  obtain ⟨i,hi,rfl⟩:=List.mem_iff_getElem.1 hx;obtain ⟨j,hj,e⟩:=List.mem_iff_getElem.1 hm;have:i=j:=by omega
  subst this;rw [hat,e];exact decide_eq_true rfl
 ·rw [aq (show ¬((List.length ms:Nat):Int)=1 by omega)];have h01:=FE hr.2.2 (show 1<ms.length by omega) (show 0<1 by omega)
  cases hh:ms.all fun m=>(fT [cC d c] c m.1).isSome
  ·rfl
  ·have h2:=List.all_eq_true.1 hh _ (List.getElem_mem (show 0<ms.length by omega));have h3:=List.all_eq_true.1 hh _ (List.getElem_mem (show 1<ms.length by omega));rw [hat] at h2 h3;have h2:=of_decide_eq_true h2;have h3:=of_decide_eq_true h3;omega
theorem Er {n:Nat} {d:bZ} (h:kN n d) (hn:n≤99) (c:Int) (ms:dC) (hl:ms.length≤1048576):mQ d.1 d.2.1 d.2.2.1 d.2.2.2.1 d.2.2.2.2.1 d.2.2.2.2.2.1 d.2.2.2.2.2.2.1 d.2.2.2.2.2.2.2.1 d.2.2.2.2.2.2.2.2.1 d.2.2.2.2.2.2.2.2.2.1 d.2.2.2.2.2.2.2.2.2.2.1 d.2.2.2.2.2.2.2.2.2.2.2.1 d.2.2.2.2.2.2.2.2.2.2.2.2.1 d.2.2.2.2.2.2.2.2.2.2.2.2.2.1 d.2.2.2.2.2.2.2.2.2.2.2.2.2.2.1 d.2.2.2.2.2.2.2.2.2.2.2.2.2.2.2.1 d.2.2.2.2.2.2.2.2.2.2.2.2.2.2.2.2.1 d.2.2.2.2.2.2.2.2.2.2.2.2.2.2.2.2.2.1 d.2.2.2.2.2.2.2.2.2.2.2.2.2.2.2.2.2.2.1 d.2.2.2.2.2.2.2.2.2.2.2.2.2.2.2.2.2.2.2.1 d.2.2.2.2.2.2.2.2.2.2.2.2.2.2.2.2.2.2.2.2.1 d.2.2.2.2.2.2.2.2.2.2.2.2.2.2.2.2.2.2.2.2.2.1 d.2.2.2.2.2.2.2.2.2.2.2.2.2.2.2.2.2.2.2.2.2.2.1 d.2.2.2.2.2.2.2.2.2.2.2.2.2.2.2.2.2.2.2.2.2.2.2.1 c ms=some ((cR d c ms).1.1,(cR d c ms).1.2.1,(cR d c ms).1.2.2.1,(cR d c ms).1.2.2.2.1,(cR d c ms).1.2.2.2.2.1,(cR d c ms).1.2.2.2.2.2.1,(cR d c ms).1.2.2.2.2.2.2.1,(cR d c ms).1.2.2.2.2.2.2.2.1,(cR d c ms).1.2.2.2.2.2.2.2.2.1,(cR d c ms).1.2.2.2.2.2.2.2.2.2.1,(cR d c ms).1.2.2.2.2.2.2.2.2.2.2.1,(cR d c ms).1.2.2.2.2.2.2.2.2.2.2.2.1,(cR d c ms).1.2.2.2.2.2.2.2.2.2.2.2.2.1,(cR d c ms).1.2.2.2.2.2.2.2.2.2.2.2.2.2.1,(cR d c ms).1.2.2.2.2.2.2.2.2.2.2.2.2.2.2.1,(cR d c ms).1.2.2.2.2.2.2.2.2.2.2.2.2.2.2.2.1,(cR d c ms).1.2.2.2.2.2.2.2.2.2.2.2.2.2.2.2.2.1,(cR d c ms).1.2.2.2.2.2.2.2.2.2.2.2.2.2.2.2.2.2.1,(cR d c ms).1.2.2.2.2.2.2.2.2.2.2.2.2.2.2.2.2.2.2.1,(cR d c ms).1.2.2.2.2.2.2.2.2.2.2.2.2.2.2.2.2.2.2.2.1,(cR d c ms).1.2.2.2.2.2.2.2.2.2.2.2.2.2.2.2.2.2.2.2.2.1,(cR d c ms).1.2.2.2.2.2.2.2.2.2.2.2.2.2.2.2.2.2.2.2.2.2.1,(cR d c ms).1.2.2.2.2.2.2.2.2.2.2.2.2.2.2.2.2.2.2.2.2.2.2.1,(cR d c ms).1.2.2.2.2.2.2.2.2.2.2.2.2.2.2.2.2.2.2.2.2.2.2.2.1,(cR d c ms).2.1,(cR d c ms).2.2,()):=by
 have hW:=h.small (by omega);obtain ⟨_,k2,k3⟩:=j6 d hW;obtain ⟨_,r2,r3⟩:=ou c ms hl;have i2:=Mo ms d.1 hl;have p2:=(uJ d hW).2;have cr:=mT c ms hl;unfold mQ cR x8;delta az cV bI;simp only [k2,r2,i2,Option.bind_some]
 cases h2:d.2.1
 case true=>cases jd d<;>rfl
 cases h4:decide ((d.1,())∈ms)
 ·cases jd d<;>cases qS c ms<;>rfl
 cases h5:decide (c≤d.2.2.2.2.2.2.2.2.2.2.2.2.2.2.2.2.2.2.1)
 case true=>cases jd d<;>cases qS c ms<;>rfl
 cases h3:qS c ms
 ·cases jd d<;>rfl
 cases h1:jd d
 ·rfl
 have hr:=r3.1 h3;have hm:=of_decide_eq_true h4;have hc:d.2.2.2.2.2.2.2.2.2.2.2.2.2.2.2.2.2.2.1<c:=by have:=of_decide_eq_false h5;omega
 obtain ⟨g,hP,hB⟩:=Bs h hr hm h2 hc;have Un:(d.2.2.2.2.2.1).length≤60:=(uY hP).1;have hlm:=hr.2.1;have l1:=QS Eh (bG d c ms) (cC d c) c ms (ms.length-1) (by omega) (by show (d.2.2.2.2.2.1).length≤_;omega);have l1:aJ kL (c,ms,(0:Int),false,(0:Int),(0:Int),[],[],[],[],(0:Int),(0:Int),(0:Int),(0:Int),(0:Int),(0:Int),(0:Int),(0:Int),(0:Int),[],(0:Int),(0:Int),(0:Int),[],[],[],d.1,d.2.1,d.2.2.1,d.2.2.2.1,d.2.2.2.2.1,d.2.2.2.2.2.1,d.2.2.2.2.2.2.1,d.2.2.2.2.2.2.2.1,d.2.2.2.2.2.2.2.2.1,d.2.2.2.2.2.2.2.2.2.1,d.2.2.2.2.2.2.2.2.2.2.1,d.2.2.2.2.2.2.2.2.2.2.2.1,d.2.2.2.2.2.2.2.2.2.2.2.2.1,d.2.2.2.2.2.2.2.2.2.2.2.2.2.1,d.2.2.2.2.2.2.2.2.2.2.2.2.2.2.1,d.2.2.2.2.2.2.2.2.2.2.2.2.2.2.2.1,d.2.2.2.2.2.2.2.2.2.2.2.2.2.2.2.2.1,d.2.2.2.2.2.2.2.2.2.2.2.2.2.2.2.2.2.1,c,d.2.2.2.2.2.2.2.2.2.2.2.2.2.2.2.2.2.2.2.1,c,ms,[(d.1,c,d.2.2.2.2.2.2.2.2.2.2.2.2.2.2.2.2.2.2.2.1,d.2.2.2.2.2.1,())],d.2.2.2.2.2.2.2.2.2.2.2.2.2.2.2.2.2.2.2.2.2.2.2.1,d.1,c,d.2.2.2.2.2.2.2.2.2.2.2.2.2.2.2.2.2.2.2.1,d.2.2.2.2.2.1,[],((ms.length-1:Nat):Int),(0:Int),())=_:=l1;have hg:(d.2.2.2.2.2.2.2.2.2.2.2.2.2.2.2.2.2.2.2.2.2.2.2.1).length≤1048576:=by have:=h.log;omega
 have iv:=(uL (bG d c ms) hr hm hB (by show (d.2.2.2.2.1).length≤_;have:=(zK h.q).1;omega) hg).2;have hw:IntKind.i64.wrap (((List.length ms:Nat):Int)-1)=((ms.length-1:Nat):Int):=by rw [cD]<;>omega
 have ci:=wT d.2.2.2.2.2.1 (by omega);rw [h2] at p2;obtain ⟨o,ho⟩:∃o,o=bG d c ms:=⟨_,rfl⟩;rw [←ho] at iv l1;unfold tP;rw [←ho,OL hr hm hP (by omega),Lj hr.2.2 hm];simp only [Bool.not_true,Bool.not_false,Bool.and_self,cond_false,cond_true,p2,cr,ci,hw,l1,cg,Option.bind_some]
 cases decide (((List.length ms:Nat):Int)=1)
 ·simp only [cond_false]
 ·simp only [cond_true];rw [iv];rfl
end Go.TM
set_option linter.unusedSimpArgs false
set_option linter.unusedVariables false
namespace Go.TM
open Go
end Go.TM
set_option linter.unusedSimpArgs false
set_option linter.unusedVariables false
namespace Go.TM
open Go
abbrev Es:Type:=Int×(List (Int×Unit))×Unit
theorem Ut (xs:List Es) {k:Nat} (hk:k<xs.length) (h:xs.length+wl Bn xs≤1048576):xs[k].2.1.length≤1048576:=by
 have hw:=HH Bn xs xs[k] (List.getElem_mem hk);have:Bn xs[k]=List.length xs[k].2.1+wl jV xs[k].2.1:=rfl;omega
theorem OM (c:Int) (xs:List (Int×Unit)) (h:xs.length≤1048576):aK c xs=some (c,xs,())∧bM c xs=some (c,xs,()):=by
 constructor
 ·unfold aK;rw [aT (show (0+xs.length)*8≤lim by unfold lim;omega)];rfl
 ·unfold bM;rw [lL _ h];rfl
theorem Bt (xs:List Es) (h:xs.length+wl Bn xs≤1048576):kT xs=some (xs,()):=by
 have hl:=ck (round:=jx) (e:=.inl (xs,())) xs.length (fun k=>(xs,xs.take k,((k:Nat):Int),())) (by
  simp only [jx,rE,aM,cond_false,List.take_length]) (fun k hk=>by
  simp only [jx,rE,aE hk,ax,cond_true,aF,List.getElem?_eq_getElem hk,Option.bind_some,(OM xs[k].1 xs[k].2.1 (Ut xs hk h)).1,List.length_take,Nat.min_eq_left (Nat.le_of_lt hk),aT (show (k+1)*32≤lim by unfold lim;omega),aN (show k<4611686018427387904 by omega)];rw [List.take_succ_eq_append_getElem hk])
 have hl:aJ jx (xs,[],(0:Int),())=_:=hl;unfold kT;rw [hl];rfl
abbrev alk:Type:=Int×Bool×Int×Int×(List (Int×Unit))×aV×(List (Int×Unit))×(List (ByteArray×Unit))×Int×Int×Int×Int×Int×Int×Int×Int×Int×(List (Int×Unit))×Int×Int×Int×(List (Int×Unit))×(List dS)×(List (Int×Int×(List (Int×Unit))×Int×Int×Int×ByteArray×(List (Int×Unit))×Unit))×Unit
def C0 (id:Int):alk:=(id,false,0,0,[],[],[],[],0,0,0,0,0,0,0,0,0,[],0,0,0,[],[],[],())
theorem ON {id:Int} (h:1≤id∧id≤5):qm id=some (id,false,0,0,[],[],[],[],0,0,0,0,0,0,0,0,0,[],0,0,0,[],[],[],true,()):=by
 unfold qm;rw [mG,ak h.1,ak h.2];rfl
def oA (n:Nat):List alk:=(List.range n).map fun (i:Nat)=>C0 ((i:Int)+1)
theorem Bu (n:Nat):(oA n).length=n:=by unfold oA;simp
theorem MF (n:Nat):oA (n+1)=oA n++[C0 ((n:Int)+1)]:=by unfold oA;rw [List.range_succ,List.map_append];rfl
theorem Uu (xs:List Es):aJ jy ([],[],[],[],xs,[],[],[],(1:Int),())=some (.inl ([],[],[],[],xs,oA 5,[],[],())):=by
 have hl:=ck (round:=jy) (e:=.inl ([],[],[],[],xs,oA 5,[],[],())) 5 (fun k=>([],[],[],[],xs,oA k,[],[],((k:Nat):Int)+1,())) (by
  simp only [jy,bC,rF,bI];rw [aq (show ¬((5:Nat):Int)+1≤5 by omega)];rfl) (fun k hk=>by
  simp only [jy,bC,rF,bI,ak (show ((k:Nat):Int)+1≤5 by omega),cond_true,ON (show 1≤((k:Nat):Int)+1∧((k:Nat):Int)+1≤5 by omega),Option.bind_some,Bu,aT (show (k+1)*320≤lim by unfold lim;omega),cD (show -9223372036854775808≤((k:Nat):Int)+1+1 by omega) (by omega),MF];rfl)
 exact hl
end Go.TM
set_option linter.unusedSimpArgs false
set_option linter.unusedVariables false
namespace Go.TM
open Go
def cm (code:List (Int×Unit)) (at_:Int):Prop:=0≤at_∧at_≤((code.length:Nat):Int)∧code.length≤1048576
theorem GS (y:Int):0≤IntKind.i64.wrap ((BitVec.ofInt IntKind.i64.bits y &&& BitVec.ofInt IntKind.i64.bits (255:Int)).toNat:Int)∧IntKind.i64.wrap ((BitVec.ofInt IntKind.i64.bits y &&& BitVec.ofInt IntKind.i64.bits (255:Int)).toNat:Int)≤255:=by
 have h:(BitVec.ofInt IntKind.i64.bits y &&& BitVec.ofInt IntKind.i64.bits (255:Int)).toNat≤255:=by
  rw [BitVec.toNat_and];exact Nat.le_trans Nat.and_le_right (by decide)
 rw [cD (by omega) (by omega)];omega
def aaP (code:List (Int×Unit)) (o:Option (Int×(List (Int×Unit))×Int×Int×Unit)) (lo hi:Int):Prop:=
 ∃v wA s',o=some (v,code,wA,s',())∧lo≤v∧v<hi∧cm code wA
theorem Et (code:List (Int×Unit)) (at_ j7:Int) (h:cm code at_):aaP code (kF code at_ j7) 0 256:=by
 obtain ⟨h0,h1,h2⟩:=h;unfold kF
 by_cases dM:at_<((List.length code:Nat):Int)
 ·obtain ⟨k,rfl⟩:=Int.eq_ofNat_of_zero_le h0;have hk:k<code.length:=by omega
  rw [ak dM];simp only [cond_true,ax,aF,List.getElem?_eq_getElem hk,Option.bind_some,aN (show k<4611686018427387904 by omega)];exact ⟨_,_,_,rfl,(GS _).1,by have:=(GS (IntKind.i64.wrap ((IntKind.i64.wrap ((BitVec.ofInt IntKind.i64.bits (IntKind.i64.wrap ((BitVec.ofInt IntKind.i64.bits (Int.fdiv (IntKind.i64.wrap ((IntKind.i64.wrap (j7*(6364136223846793005:Int)))+(1442695040888963407:Int))) (2 ^ (min 33 IntKind.i64.bits))) ^^^ BitVec.ofInt IntKind.i64.bits (Int.fdiv (IntKind.i64.wrap ((IntKind.i64.wrap (j7*(6364136223846793005:Int)))+(1442695040888963407:Int))) (2 ^ (min 45 IntKind.i64.bits)))).toNat:Int)) &&& BitVec.ofInt IntKind.i64.bits (255:Int)).toNat:Int))+(IntKind.i64.wrap code[k].1)))).2;exact Int.lt_add_one_of_le this,by omega,by omega,h2⟩
 ·rw [aq dM];exact ⟨_,_,_,rfl,(GS _).1,Int.lt_add_one_of_le (GS _).2,h0,h1,h2⟩
theorem C1 {v n:Int} (hv:0≤v) (hn:0<n):0≤Int.tmod v n∧Int.tmod v n<n:=by
 obtain ⟨a,rfl⟩:=Int.eq_ofNat_of_zero_le hv;obtain ⟨b,rfl⟩:=Int.eq_ofNat_of_zero_le (Int.le_of_lt hn);have:Int.tmod ((a:Nat):Int) ((b:Nat):Int)=((a % b:Nat):Int):=rfl;rw [this];have:=Nat.mod_lt a (show 0<b by omega);omega
theorem dV (code:List (Int×Unit)) (at_ j7 n:Int) (h:cm code at_) (hn:0<n):aaP code (bq code at_ j7 n) 0 n:=by
 unfold bq;rw [aq (show ¬n≤0 by omega),aq (show ¬n=0 by omega)]
 by_cases alm:n≤256
 ·obtain ⟨v,a1,s1,e1,v1,v2,d1⟩:=Et code at_ j7 h;rw [ak alm];simp only [cond_false,cond_true,e1,Option.bind_some];exact ⟨_,_,_,rfl,(C1 v1 hn).1,(C1 v1 hn).2,d1⟩
 ·obtain ⟨v,a1,s1,e1,v1,v2,d1⟩:=Et code at_ j7 h;obtain ⟨w,a2,s2,e2,w1,w2,d2⟩:=Et code a1 s1 d1;obtain ⟨x,a3,s3,e3,x1,x2,d3⟩:=Et code a2 s2 d2;obtain ⟨y,a4,s4,e4,y1,y2,d4⟩:=Et code a3 s3 d3;rw [aq alm];simp only [cond_false,e1,e2,e3,e4,Option.bind_some];have hw:IntKind.i64.wrap ((IntKind.i64.wrap ((IntKind.i64.wrap ((IntKind.i64.wrap (v*(16777216:Int)))+(IntKind.i64.wrap (w*(65536:Int)))))+(IntKind.i64.wrap (x*(256:Int)))))+y)=v*16777216+w*65536+x*256+y:=by
   rw [cD (show -9223372036854775808≤v*(16777216:Int) by omega) (by omega),cD (show -9223372036854775808≤w*(65536:Int) by omega) (by omega),cD (show -9223372036854775808≤x*(256:Int) by omega) (by omega),
    cD (show -9223372036854775808≤v*(16777216:Int)+w*65536 by omega) (by omega),cD (show -9223372036854775808≤v*(16777216:Int)+w*65536+x*256 by omega) (by omega),cD (by omega) (by omega)]
  rw [hw];have hr:=C1 (v:=v*16777216+w*65536+x*256+y) (by omega) hn;exact ⟨_,_,_,rfl,hr.1,hr.2,d4⟩
theorem qV (code:List (Int×Unit)) (at_ j7 n:Int) (h:cm code at_) (hn:0<n):∃b wA s',eY code at_ j7 n=some (b,code,wA,s',())∧cm code wA:=by
 obtain ⟨v,a1,s1,e1,v1,v2,d1⟩:=dV code at_ j7 n h hn;unfold eY;simp only [e1,Option.bind_some];exact ⟨_,_,_,rfl,d1⟩
def agv {B:Type} (code:List (Int×Unit)):Sum ((List (Int×Unit))×Int×Unit) B→Prop
 |.inl y=>y.1=code
 |.inr _=>False
theorem agw (code:List (Int×Unit)) (h:code.length≤1048576):∃s',sE code=some (code,(0:Int),s',()):=by
 unfold sE;obtain ⟨e,he,hq⟩:=dG (round:=nD) (x:=(code,IntKind.i64.wrap ((27101:Int)+((List.length code:Nat):Int)),((0:Nat):Int),())) code.length (fun k x=>∃s,x=(code,s,((k:Nat):Int),())) (agv code) (by
  rintro x ⟨s,rfl⟩
  exact ⟨.inl (code,s,()),by simp only [nD,vo,aM,cond_false],rfl⟩) (by
  rintro k x hk ⟨s,rfl⟩
  simp only [nD,vo,aE hk,ax,cond_true,aF,List.getElem?_eq_getElem hk,Option.bind_some,aN (show k<4611686018427387904 by omega)]
  cases decide (((k:Nat):Int)<(4000:Int))
  ·exact .inl ⟨.inl (code,s,()),rfl,rfl⟩
  ·exact .inr ⟨_,rfl,_,rfl⟩) ⟨_,rfl⟩
 rw [show ((0:Nat):Int)=(0:Int) from rfl] at he;rw [he]
 cases e with
 |inr e=>exact hq.elim
 |inl e=>
  have hq:e.1=code:=hq;exact ⟨e.2.1,by rw [←hq];rfl⟩
theorem zM (code:List (Int×Unit)) (at_ j7:Int) (l:List (Int×Unit)) (h:cm code at_) (h0:0<l.length):∃v wA s',cM code at_ j7 l=some (v,code,wA,s',())∧(v,())∈l∧cm code wA:=by
 obtain ⟨v,a1,s1,e1,v1,v2,d1⟩:=dV code at_ j7 ((l.length:Nat):Int) h (by omega);obtain ⟨k,rfl⟩:=Int.eq_ofNat_of_zero_le v1;have hk:k<l.length:=by omega
 unfold cM;simp only [e1,Option.bind_some,ax,cond_true,aF,List.getElem?_eq_getElem hk];exact ⟨_,_,_,rfl,List.getElem_mem hk,d1⟩
end Go.TM
set_option linter.unusedSimpArgs false
set_option linter.unusedVariables false
namespace Go.TM
open Go
theorem Uv (n:Nat) (x:Int) (h:n≤1048576):∃b,uC ((n:Nat):Int) x=some (b,())∧b.size=n:=by
 unfold uC;obtain ⟨e,he,hq⟩:=dG (round:=kq) (x:=(((n:Nat):Int),x,List.replicate n ((0:Int),()),((0:Nat):Int),())) n (fun k y=>∃l:List (Int×Unit),y=(((n:Nat):Int),x,l,((k:Nat):Int),())∧l.length=n) (fun e=>∃l:List (Int×Unit),e=.inl (l,())∧l.length=n) (by
   rintro y ⟨l,rfl,hl⟩
   exact ⟨.inl (l,()),by simp only [kq,aw,tC,aM,cond_false],_,rfl,hl⟩) (by
   rintro k y hk ⟨l,rfl,hl⟩
   have hkl:k<l.length:=by omega
   refine .inr ⟨_,?_,l.set k (x,()),rfl,(by rw [List.length_set];exact hl)⟩;simp only [kq,aw,tC,aE hk,ax,cond_true,aF,fl hkl,List.getElem?_eq_getElem hkl,Option.bind_some,aN (show k<4611686018427387904 by omega)]) ⟨List.replicate n ((0:Int),()),rfl,List.length_replicate⟩
 have he:aJ kq (((n:Nat):Int),x,List.replicate n ((0:Int),()),(0:Int),())=some e:=he;obtain ⟨l,rfl,hl⟩:=hq;simp only [decide_true,cond_true,ax,aF,aT (show n*1≤lim by unfold lim;omega),he,kD];exact ⟨_,rfl,by rw [D9,hl]⟩
end Go.TM
set_option linter.unusedSimpArgs false
set_option linter.unusedVariables false
namespace Go.TM
open Go
theorem OO (code:List (Int×Unit)) (at_ j7:Int) (l:List (ByteArray×Unit)) (h:cm code at_) (h0:0<l.length):∃v wA s',qn code at_ j7 l=some (v,code,wA,s',())∧(v,())∈l∧cm code wA:=by
 obtain ⟨v,a1,s1,e1,v1,v2,d1⟩:=dV code at_ j7 ((l.length:Nat):Int) h (by omega);obtain ⟨k,rfl⟩:=Int.eq_ofNat_of_zero_le v1;have hk:k<l.length:=by omega
 unfold qn;simp only [e1,Option.bind_some,ax,cond_true,aF,List.getElem?_eq_getElem hk];exact ⟨_,_,_,rfl,List.getElem_mem hk,d1⟩
theorem X0 (code:List (Int×Unit)) (at_ j7 q:Int) (h:cm code at_):∃f l s wA s',pI code at_ j7 q=some (q,f,l,s,code,wA,s',())∧cm code wA∧s.size≤3:=by
 obtain ⟨v,a1,s1,e1,_,_,d1⟩:=dV code at_ j7 2 h (by omega);obtain ⟨t,a2,s2,e2,ht,d2⟩:=OO code a1 s1 [((ByteArray.mk #[]),()),((ByteArray.mk #[120]),()),((ByteArray.mk #[121,121]),()),((ByteArray.mk #[122,122,122]),())] d1 (by simp);unfold pI;simp only [e1,e2,Option.bind_some];refine ⟨_,_,_,_,_,rfl,d2,?_⟩;simp only [List.mem_cons,Prod.mk.injEq,and_true,List.not_mem_nil,or_false] at ht;rcases ht with rfl | rfl | rfl | rfl<;>decide
theorem QT (code:List (Int×Unit)) (at_ j7:Int) (h:cm code at_):∃q f l s wA s',pt code at_ j7=some (q,f,l,s,code,wA,s',())∧cm code wA∧s.size≤61:=by
 obtain ⟨v,a1,s1,e1,_,_,d1⟩:=dV code at_ j7 12 h (by omega);obtain ⟨f,l,t,a2,s2,e2,d2,ht⟩:=X0 code a1 s1 (IntKind.i64.wrap ((1:Int)+v)) d1;obtain ⟨w,a3,s3,e3,_,_,d3⟩:=dV code a2 s2 16 d2 (by omega);have pick:∀l:List (Int×Unit),0<l.length→∃v wA s',cM code a3 s3 l=some (v,code,wA,s',())∧(v,())∈l∧cm code wA:=fun l hl=>zM code a3 s3 l d3 hl
 unfold pt;delta aA;simp only [e1,e2,e3,Option.bind_some]
 cases decide (w=0)
 case true=>
  obtain ⟨x,a4,s4,e4,_,d4⟩:=pick [((0:Int),()),((-1:Int),()),((60:Int),()),((61:Int),())] (by simp);simp only [e4,Option.bind_some,cond_true];exact ⟨_,_,_,_,_,_,rfl,d4,by omega⟩
 cases decide (w=1)
 case true=>
  obtain ⟨x,a4,s4,e4,_,d4⟩:=pick [((0:Int),()),((5:Int),()),((6:Int),())] (by simp);simp only [e4,Option.bind_some,cond_true];exact ⟨_,_,_,_,_,_,rfl,d4,by omega⟩
 cases decide (w=2)
 case true=>
  obtain ⟨x,a4,s4,e4,_,d4⟩:=pick [((0:Int),()),((3:Int),())] (by simp);simp only [e4,Option.bind_some,cond_true];exact ⟨_,_,_,_,_,_,rfl,d4,by omega⟩
 cases decide (w=3)
 case true=>
  obtain ⟨x,a4,s4,e4,x0,x1,d4⟩:=dV code a3 s3 2 d3 (by omega);obtain ⟨n,rfl⟩:=Int.eq_ofNat_of_zero_le x0;have hw:IntKind.i64.wrap ((60:Int)+((n:Nat):Int))=((60+n:Nat):Int):=by rw [cD]<;>omega
  obtain ⟨b,e5,hb⟩:=Uv (60+n) 65 (by omega);simp only [e4,hw,e5,Option.bind_some,cond_true];exact ⟨_,_,_,_,_,_,rfl,d4,by omega⟩
 exact ⟨_,_,_,_,_,_,rfl,d3,by omega⟩
theorem MG (code:List (Int×Unit)) (at_ j7:Int) (h:cm code at_):∃l wA s',so code at_ j7=some (l,code,wA,s',())∧List.length l≤9∧cm code wA∧∀x∈l,ByteArray.size x.2.2.2.1≤61:=by
 obtain ⟨e,he,hq⟩:=dG (round:=gp) (x:=(code,at_,j7,[],((0+1:Nat):Int),())) 9 (fun k x=>∃(a s:Int) (l:aV),x=(code,a,s,l,((k+1:Nat):Int),())∧l.length≤k∧cm code a∧∀x∈l,ByteArray.size x.2.2.2.1≤61)
  (fun e=>∃(a s:Int) (l:aV),e=.inl (code,a,s,l,())∧l.length≤9∧cm code a∧∀x∈l,ByteArray.size x.2.2.2.1≤61) (by
   rintro x ⟨a,s,l,rfl,q1,d,hx⟩
   obtain ⟨v,a1,s1,e1,v0,v1,d1⟩:=dV code a s 10 d (by omega);refine ⟨.inl (code,a1,s1,l,()),?_,_,_,_,rfl,q1,d1,hx⟩;simp only [gp,aw,lF,aA,e1,Option.bind_some,aq (show ¬((9+1:Nat):Int)≤v by omega),cond_false]) (by
   rintro k x hk ⟨a,s,l,rfl,q1,d,hx⟩
   obtain ⟨v,a1,s1,e1,v0,v1,d1⟩:=dV code a s 10 d (by omega)
   by_cases dM:((k+1:Nat):Int)≤v
   ·obtain ⟨b,a2,s2,e2,d2⟩:=qV code a1 s1 4 d1 (by omega)
    cases b
    ·obtain ⟨f,lv,t,a3,s3,e3,d3,ht⟩:=X0 code a2 s2 ((k+1:Nat):Int) d2;refine .inr ⟨_,?_,a3,s3,l++[(((k+1:Nat):Int),f,lv,t,())],rfl,by simp;omega,d3,fun x h=>by
      rcases List.mem_append.1 h with h | h
      ·exact hx x h
      ·rw [List.mem_singleton] at h;subst h;show t.size≤61;omega⟩
     simp only [gp,aw,lF,aA,e1,e2,e3,Option.bind_some,ak dM,cond_true,Bool.not_false,aT (show (l.length+1)*40≤lim by unfold lim;omega),aN (show k+1<4611686018427387904 by omega)]
    ·refine .inr ⟨_,?_,a2,s2,l,rfl,by omega,d2,hx⟩;simp only [gp,aw,lF,aA,e1,e2,Option.bind_some,ak dM,cond_true,cond_false,Bool.not_true,aN (show k+1<4611686018427387904 by omega)]
   ·refine .inl ⟨.inl (code,a1,s1,l,()),?_,_,_,_,rfl,by omega,d1,hx⟩;simp only [gp,aw,lF,aA,e1,Option.bind_some,aq dM,cond_false]) ⟨at_,j7,[],rfl,by simp,h,fun x h=>by cases h⟩
 have he:aJ gp (code,at_,j7,[],(1:Int),())=some e:=he;obtain ⟨a,s,l,rfl,q1,d,hx⟩:=hq;unfold so;rw [he];exact ⟨l,a,s,rfl,q1,d,hx⟩
theorem OQ (code:List (Int×Unit)) (at_ j7:Int) (h:cm code at_):∃l wA s',lG code at_ j7=some (l,code,wA,s',())∧List.length l≤10∧cm code wA∧∀x∈l,ByteArray.size x.2.2.2.1≤61:=by
 obtain ⟨l,a1,s1,e1,l1,d1,hx⟩:=MG code at_ j7 h;obtain ⟨v,a2,s2,e2,_,_,d2⟩:=dV code a1 s1 16 d1 (by omega);unfold lG;delta aA;simp only [e1,e2,Option.bind_some]
 cases decide (v=0)
 case true=>
  obtain ⟨q,f,lv,t,a3,s3,e3,d3,ht⟩:=QT code a2 s2 d2;simp only [e3,Option.bind_some,cond_true,aT (show (l.length+1)*40≤lim by unfold lim;omega)];exact ⟨_,_,_,rfl,by simp;omega,d3,fun x h=>by
   rcases List.mem_append.1 h with h | h
   ·exact hx x h
   ·rw [List.mem_singleton] at h;subst h;exact ht⟩
 cases decide (v=1)
 case true=>
  by_cases h0:(0:Int)<((List.length l:Nat):Int)
  ·obtain ⟨w,a3,s3,e3,w0,w1,d3⟩:=dV code a2 s2 ((List.length l:Nat):Int) d2 h0;obtain ⟨i,rfl⟩:=Int.eq_ofNat_of_zero_le w0;have hi:i<l.length:=by omega
   obtain ⟨x,a4,s4,e4,_,d4⟩:=zM code a3 s3 [((0:Int),()),((-1:Int),()),((3:Int),()),((61:Int),())] d3 (by simp);simp only [ak h0,e3,e4,Option.bind_some,cond_true,ax,aF,fl hi,List.getElem?_eq_getElem hi];exact ⟨_,_,_,rfl,by rw [List.length_set];omega,d4,fun y h=>by
    rcases List.mem_or_eq_of_mem_set h with h | rfl
    ·exact hx y h
    ·exact hx l[i] (List.getElem_mem hi)⟩
  ·rw [aq h0];exact ⟨_,_,_,rfl,by omega,d2,hx⟩
 exact ⟨_,_,_,rfl,by omega,d2,hx⟩
end Go.TM
set_option linter.unusedSimpArgs false
set_option linter.unusedVariables false
namespace Go.TM
open Go
def la (xs:List (Int×Unit)) (m:Nat):Prop:=xs.length≤m∧(∀j (hj:j<xs.length),1≤xs[j].1∧xs[j].1≤((m:Nat):Int))∧∀i j (hi:i<xs.length) (hj:j<xs.length),i<j→xs[i].1<xs[j].1
theorem la.snoc {xs:List (Int×Unit)} {m:Nat} (h:la xs m):la (xs++[(((m+1:Nat):Int),())]) (m+1):=by
 obtain ⟨h1,h2,h3⟩:=h;refine ⟨by simp;omega,fun j hj => ?_,fun i j hi hj Yi => ?_⟩
 ·by_cases hx:j<xs.length
  ·rw [List.getElem_append_left hx];have:=h2 j hx;omega
  ·have:j=xs.length:=by simp at hj;omega
   subst this;simp;omega
 ·by_cases hx:j<xs.length
  ·rw [List.getElem_append_left hx,List.getElem_append_left (by omega)];exact h3 i j (by omega) hx Yi
  ·have hj':j=xs.length:=by simp at hj;omega
   subst hj';have YA:i<xs.length:=Yi;rw [List.getElem_append_left YA];have:=h2 i YA;simp;omega
theorem la.up {xs:List (Int×Unit)} {m:Nat} (h:la xs m):la xs (m+1):=
 ⟨by have:=h.1;omega,fun j hj=>by have:=h.2.1 j hj;omega,h.2.2⟩
structure IU (c:Int) (xs:List (Int×Unit)):Prop where
 yP:1≤c
 pr:c≤9
 some_:1≤xs.length
 rising:la xs 5
theorem IU.len {c:Int} {xs:List (Int×Unit)} (h:IU c xs):xs.length≤5:=h.rising.1
def X2 {B:Type} (code:List (Int×Unit)) (c:Int):Sum ((List (Int×Unit))×Int×Int×Int×(List (Int×Unit))×Int×(List (Int×Unit))×Unit) B→Prop
 |.inl y=>y.1=code∧cm code y.2.1∧y.2.2.2.2.2.1=c∧la y.2.2.2.2.2.2.1 4
 |.inr _=>False
theorem QU (code:List (Int×Unit)) (at_ j7:Int) (h:cm code at_):∃c xs wA s',qJ code at_ j7=some (c,xs,code,wA,s',())∧IU c xs∧c≤3∧la xs 4∧cm code wA:=by
 obtain ⟨v,a1,s1,e1,v1,v2,d1⟩:=dV code at_ j7 3 h (by omega);unfold qJ;rw [e1];simp only [Option.bind_some];have hw:IntKind.i64.wrap ((1:Int)+v)=1+v:=cD (by omega) (by omega);rw [hw];obtain ⟨e,he,hq⟩:=dG (round:=kn) (x:=(code,a1,s1,(0:Int),[],1+v,[],((1:Nat):Int),())) 4 (fun k x=>∃(a s:Int) (m:List (Int×Unit)),x=(code,a,s,(0:Int),[],1+v,m,((k+1:Nat):Int),())∧cm code a∧la m k)
  (X2 code (1+v)) (by
  rintro x ⟨a,s,m,rfl,da,rm⟩
  exact ⟨.inl (code,a,s,0,[],1+v,m,()),by simp only [kn,bC,tw,aq (show ¬((4+1:Nat):Int)≤4 by omega),cond_false],rfl,da,rfl,rm⟩) (by
  rintro k x hk ⟨a,s,m,rfl,da,rm⟩
  obtain ⟨b,a2,s2,e2,d2⟩:=qV code a s 3 da (by omega);have Yr:=rm.1;have hs:IntKind.i64.wrap (((k+1:Nat):Int)+(1:Int))=((k+1+1:Nat):Int):=by rw [cD]<;>omega
  simp only [kn,bC,tw,ak (show ((k+1:Nat):Int)≤4 by omega),cond_true,e2,Option.bind_some,aT (show (List.length m+1)*8≤lim by unfold lim;omega),hs]
  cases b
  ·exact .inr ⟨_,rfl,a2,s2,m++[(((k+1:Nat):Int),())],rfl,d2,rm.snoc⟩
  ·exact .inr ⟨_,rfl,a2,s2,m,rfl,d2,rm.up⟩) ⟨a1,s1,[],rfl,d1,by simp,fun j hj=>by simp at hj,fun i j hi=>by simp at hi⟩
 have he:aJ kn (code,a1,s1,(0:Int),[],1+v,[],(1:Int),())=some e:=he;rw [he]
 cases e with
 |inr e=>exact hq.elim
 |inl e=>
  obtain ⟨y1,y2,y3,y4,y5,y6,y7,_⟩:=e;obtain ⟨q1,q2,q3,q4⟩:=hq;simp only at q1 q2 q3 q4;subst q1 q3;simp only [kD];have q5:la y7 5:=q4.up
  by_cases h0:((List.length y7:Nat):Int)=0
  ·rw [ak h0];have r4:la [((2:Int),())] 4:=⟨by simp,fun j hj=>by
    have:j=0:=by simp at hj;omega
    subst this;simp,fun i j hi hj Yi=>by simp at hi hj;omega⟩
   exact ⟨_,_,_,_,rfl,⟨by omega,by omega,by simp,r4.up⟩,by omega,r4,q2⟩
  ·rw [aq h0];exact ⟨_,_,_,_,rfl,⟨by omega,by omega,by omega,q5⟩,by omega,q4,q2⟩
end Go.TM
set_option linter.unusedSimpArgs false
set_option linter.unusedVariables false
namespace Go.TM
open Go
structure IV (rs:List Es):Prop where
 some_:1≤rs.length
 GR:rs.length≤5
 each:∀k (hk:k<rs.length),rs[k].1=((k+1:Nat):Int)∧IU rs[k].1 rs[k].2.1∧la rs[k].2.1 3
theorem OR (code:List (Int×Unit)) (a s:Int) (out:List Es) (i c:Int) (d:cm code a):∃a' s' m,aJ gk (code,a,s,out,i,c,[],(1:Int),())=some (.inl (code,a',s',out,i,c,m,()))∧la m 3∧cm code a':=by
 obtain ⟨e,he,a',s',m,rfl,h1,h2⟩:=dG (round:=gk) (x:=(code,a,s,out,i,c,[],((0+1:Nat):Int),())) 3
  (fun k x=>∃(a s:Int) (m:List (Int×Unit)),x=(code,a,s,out,i,c,m,((k+1:Nat):Int),())∧cm code a∧la m k)
  (fun e=>∃(a s:Int) (m:List (Int×Unit)),e=.inl (code,a,s,out,i,c,m,())∧la m 3∧cm code a) (by
   rintro x ⟨a,s,m,rfl,da,rm⟩
   exact ⟨_,by simp only [gk,bC,nE,aq (show ¬((3+1:Nat):Int)≤3 by omega),cond_false],a,s,m,rfl,rm,da⟩) (by
   rintro k x hk ⟨a,s,m,rfl,da,rm⟩
   obtain ⟨b,a2,s2,e2,d2⟩:=qV code a s 4 da (by omega);have Yr:=rm.1;have hs:IntKind.i64.wrap (((k+1:Nat):Int)+(1:Int))=((k+1+1:Nat):Int):=by rw [cD]<;>omega
   simp only [gk,bC,nE,ak (show ((k+1:Nat):Int)≤3 by omega),cond_true,e2,Option.bind_some,aT (show (List.length m+1)*8≤lim by unfold lim;omega),hs]
   cases b
   ·exact .inr ⟨_,rfl,a2,s2,m++[(((k+1:Nat):Int),())],rfl,d2,rm.snoc⟩
   ·exact .inr ⟨_,rfl,a2,s2,m,rfl,d2,rm.up⟩) ⟨a,s,[],rfl,d,by simp,fun j hj=>by simp at hj,fun i j hi=>by simp at hi⟩
 exact ⟨a',s',m,he,h1,h2⟩
theorem agx {m:List (Int×Unit)} (h:la m 3):la m 5:=h.up.up
theorem MH (code:List (Int×Unit)) (a s:Int) (d:cm code a):∃rs a' s',nd code a s=some (rs,code,a',s',())∧IV rs∧cm code a':=by
 obtain ⟨e,he,a',s',rs,rfl,h1,h2⟩:=dG (round:=gl) (x:=(code,a,s,[],((0:Nat):Int),())) 5
  (fun k x=>∃(a s:Int) (rs:List Es),x=(code,a,s,rs,((k:Nat):Int),())∧cm code a∧rs.length=k∧∀j (hj:j<rs.length),rs[j].1=((j+1:Nat):Int)∧IU rs[j].1 rs[j].2.1∧la rs[j].2.1 3)
  (fun e=>∃(a s:Int) (rs:List Es),e=.inl (code,a,s,rs,())∧IV rs∧cm code a) (by
   rintro x ⟨a,s,rs,rfl,da,hl,hr⟩
   obtain ⟨b,a2,s2,e2,b1,b2,d2⟩:=dV code a s 5 da (by omega);exact ⟨_,by simp only [gl,aw,nF,e2,Option.bind_some,cD (show -9223372036854775808≤1+b by omega) (by omega),aq (show ¬((5:Nat):Int)<1+b by omega),cond_false],a2,s2,rs,rfl,⟨by omega,by omega,hr⟩,d2⟩) (by
   rintro k x hk ⟨a,s,rs,rfl,da,hl,hr⟩
   obtain ⟨b,a2,s2,e2,b1,b2,d2⟩:=dV code a s 5 da (by omega);simp only [gl,aw,nF,e2,Option.bind_some,cD (show -9223372036854775808≤1+b by omega) (by omega)]
   by_cases hb:((k:Nat):Int)<1+b
   case neg=>
    rw [aq hb];exact .inl ⟨_,rfl,a2,s2,rs,rfl,⟨by omega,by omega,hr⟩,d2⟩
   obtain ⟨a3,s3,m,e3,rm,d3⟩:=OR code a2 s2 rs ((k:Nat):Int) ((k+1:Nat):Int) d2;have more:∀(a s:Int) (m:List (Int×Unit)),cm code a→1≤m.length→la m 3→∃y,(some (.inl (code,a,s,rs++[(((k+1:Nat):Int),m,())],((k+1:Nat):Int),())):Option (Sum _ (Sum (List (Int×Unit)×Int×Int×List Es×Unit) Unit)))=some (.inl y)∧∃(a s:Int) (rs:List Es),y=(code,a,s,rs,((k+1:Nat):Int),())∧cm code a∧rs.length=k+1∧∀j (hj:j<rs.length),rs[j].1=((j+1:Nat):Int)∧IU rs[j].1 rs[j].2.1∧la rs[j].2.1 3:=fun a s m da h1 rm=>⟨_,rfl,a,s,_,rfl,da,by rw [List.length_append,hl];rfl,fun j hj=>by
    rw [List.length_append,List.length_singleton] at hj
    by_cases e:j<rs.length
    ·rw [List.getElem_append_left e];exact hr j e
    ·have:j=rs.length:=by omega
     subst this;rw [List.getElem_append_right (Nat.le_refl _)];simp only [Nat.sub_self,List.getElem_cons_zero];exact ⟨by rw [hl],⟨by omega,by omega,h1,agx rm⟩,rm⟩⟩
   simp only [ak hb,cond_true,aN (show k<4611686018427387904 by omega),e3,kD];have QL:Nat.ble ((rs.length+1)*32) lim=true:=aT (by rw [hl];unfold lim;omega)
   by_cases h0:((List.length m:Nat):Int)=0
   ·obtain ⟨v,a4,s4,e4,v1,v2,d4⟩:=dV code a3 s3 3 d3 (by omega);simp only [ak h0,cond_true,e4,Option.bind_some,QL,cD (show -9223372036854775808≤1+v by omega) (by omega)];exact .inr (more a4 s4 [(1+v,())] d4 (by simp) ⟨by simp,fun j hj=>by
     have:j=0:=by simp at hj;omega
     subst this;exact ⟨by show 1≤1+v;omega,by show 1+v≤3;omega⟩,fun i j hi hj Yi=>by simp at hi hj;omega⟩)
   ·simp only [aq h0,cond_false,QL,cond_true];exact .inr (more a3 s3 m d3 (by omega) rm)) ⟨a,s,[],rfl,d,rfl,fun j hj=>by simp at hj⟩
 have he:aJ gl (code,a,s,[],(0:Int),())=_:=he;refine ⟨rs,a',s',?_,h1,h2⟩;unfold nd;rw [he];rfl
end Go.TM
set_option linter.unusedSimpArgs false
set_option linter.unusedVariables false
namespace Go.TM
open Go
abbrev OS:Type:=List (Int×dC×Unit)
abbrev GJ:Type:=Int×Int×Int×Int×Int×Int×ByteArray×Int×Int×Int×Int×Int×dC×Int×Int×Int×aV×Unit
abbrev mr:Type:=OS×List bZ×List GJ×List tK×Unit
def Ah (w:mr) (k:Nat) (d:bZ):mr:=(w.1,w.2.1.set k d,w.2.2)
def fN (w:mr) (l:List GJ):mr:=(w.1,w.2.1,l,w.2.2.2)
def xu (w:mr) (l:List tK):mr:=(w.1,w.2.1,w.2.2.1,l,())
theorem wk {k:Nat} (hk:k<1000):IntKind.i64.wrap (((k+1:Nat):Int)-1)=((k:Nat):Int):=by rw [cD]<;>omega
theorem pL (w:mr) (h:w.2.1.length≤5) {k:Nat} (hk:k<w.2.1.length) (d:bZ) (hd:d.1=((k+1:Nat):Int)):ej w.1 w.2.1 w.2.2.1 w.2.2.2.1 d.1 d.2.1 d.2.2.1 d.2.2.2.1 d.2.2.2.2.1 d.2.2.2.2.2.1 d.2.2.2.2.2.2.1 d.2.2.2.2.2.2.2.1 d.2.2.2.2.2.2.2.2.1 d.2.2.2.2.2.2.2.2.2.1 d.2.2.2.2.2.2.2.2.2.2.1 d.2.2.2.2.2.2.2.2.2.2.2.1 d.2.2.2.2.2.2.2.2.2.2.2.2.1 d.2.2.2.2.2.2.2.2.2.2.2.2.2.1 d.2.2.2.2.2.2.2.2.2.2.2.2.2.2.1 d.2.2.2.2.2.2.2.2.2.2.2.2.2.2.2.1 d.2.2.2.2.2.2.2.2.2.2.2.2.2.2.2.2.1 d.2.2.2.2.2.2.2.2.2.2.2.2.2.2.2.2.2.1 d.2.2.2.2.2.2.2.2.2.2.2.2.2.2.2.2.2.2.1 d.2.2.2.2.2.2.2.2.2.2.2.2.2.2.2.2.2.2.2.1 d.2.2.2.2.2.2.2.2.2.2.2.2.2.2.2.2.2.2.2.2.1 d.2.2.2.2.2.2.2.2.2.2.2.2.2.2.2.2.2.2.2.2.2.1 d.2.2.2.2.2.2.2.2.2.2.2.2.2.2.2.2.2.2.2.2.2.2.1 d.2.2.2.2.2.2.2.2.2.2.2.2.2.2.2.2.2.2.2.2.2.2.2.1=some ((Ah w k d).1,(Ah w k d).2.1,(Ah w k d).2.2.1,(Ah w k d).2.2.2.1,()):=by
 unfold ej;simp only [hd,wk (show k<1000 by omega),ax,aF,cond_true,List.nil_append,fl hk,List.getElem?_eq_getElem hk,Option.bind_some,aT (show (0+w.2.1.length)*320≤lim by unfold lim;omega)];rw [←hd];rfl
theorem Eu (w:mr) (h:w.2.2.1.length≤1073741824) (x:GJ):fa w.1 w.2.1 w.2.2.1 w.2.2.2.1 x.1 x.2.1 x.2.2.1 x.2.2.2.1 x.2.2.2.2.1 x.2.2.2.2.2.1 x.2.2.2.2.2.2.1 x.2.2.2.2.2.2.2.1 x.2.2.2.2.2.2.2.2.1 x.2.2.2.2.2.2.2.2.2.1 x.2.2.2.2.2.2.2.2.2.2.1 x.2.2.2.2.2.2.2.2.2.2.2.1 x.2.2.2.2.2.2.2.2.2.2.2.2.1 x.2.2.2.2.2.2.2.2.2.2.2.2.2.1 x.2.2.2.2.2.2.2.2.2.2.2.2.2.2.1 x.2.2.2.2.2.2.2.2.2.2.2.2.2.2.2.1 x.2.2.2.2.2.2.2.2.2.2.2.2.2.2.2.2.1=some ((fN w (w.2.2.1++[x])).1,(fN w (w.2.2.1++[x])).2.1,(fN w (w.2.2.1++[x])).2.2.1,(fN w (w.2.2.1++[x])).2.2.2.1,()):=by
 unfold fa;simp only [List.nil_append,cond_true,aT (show (0+w.2.2.1.length)*176≤lim by unfold lim;omega),aT (show (w.2.2.1.length+1)*176≤lim by unfold lim;omega)];rfl
def Ev (B7 c:Int) (x:dY):GJ:=(1,B7,c,x.1,x.2.1,x.2.2.1,x.2.2.2.1,0,0,0,0,0,[],0,0,0,[],())
def xv (B7 c:Int) (t:lT):GJ:=(2,B7,c,0,0,0,ByteArray.empty,t.1,t.2.1,t.2.2.1,t.2.2.2.1,t.2.2.2.2.1,t.2.2.2.2.2.1,0,0,0,[],())
def QV (B7 c:Int) (b:dS):GJ:=(3,B7,c,0,0,0,ByteArray.empty,0,0,0,0,0,[],b.1,b.2.1,b.2.2.1,b.2.2.2.1,())
def eP (ms:dC) (c id:Int) (x:dY):List GJ:=(ms.filter fun m => !decide (m.1=id)).map fun m=>Ev m.1 c x
def dA (ms:dC) (c id:Int) (l:aV):List GJ:=l.flatMap (eP ms c id)
theorem JD (ms:dC) (c id:Int) (x:dY) {k:Nat} (hk:k<ms.length):eP (ms.take (k+1)) c id x=eP (ms.take k) c id x++(bif !decide (ms[k].1=id) then [Ev ms[k].1 c x] else []):=by
 unfold eP;rw [List.take_succ_eq_append_getElem hk,List.filter_append,List.map_append,List.filter_cons,List.filter_nil]
 cases decide (ms[k].1=id)<;>rfl
theorem Ew (ms:dC) (c id:Int) (x:dY):(eP ms c id x).length≤ms.length:=by
 unfold eP;rw [List.length_map];exact List.length_filter_le _ _
theorem OT (ms:dC) (c id:Int) (l:aV) {k:Nat} (hk:k<l.length):dA ms c id (l.take (k+1))=dA ms c id (l.take k)++eP ms c id l[k]:=by
 unfold dA;rw [List.take_succ_eq_append_getElem hk,List.flatMap_append];simp
theorem zN (ms:dC) (c id:Int) (hn:ms.length≤5):(l:aV)→(dA ms c id l).length≤5*l.length
 | []=>by simp [dA]
 |x::l=>by
  have h1:=zN ms c id hn l;have h2:=Ew ms c id x;have e:dA ms c id (x::l)=eP ms c id x++dA ms c id l:=rfl;rw [e,List.length_append,List.length_cons];omega
theorem QW {ms:dC} {c id:Int} {l:aV} {f:GJ} (h:f∈dA ms c id l):∃m∈ms,∃x∈l,f=Ev m.1 c x:=by
 unfold dA at h;obtain ⟨x,hx,h⟩:=List.mem_flatMap.1 h;unfold eP at h;obtain ⟨m,hm,rfl⟩:=List.mem_map.1 h;exact ⟨m,(List.mem_filter.1 hm).1,x,hx,rfl⟩
theorem Lk (w:mr) (c:Int) (ms:dC) (id:Int) (l:aV) (h1:ms.length≤5) (h2:w.2.2.1.length≤1073741824-1048576) (h3:l.length≤1000):ob w.1 w.2.1 w.2.2.1 w.2.2.2.1 c ms id l=some ((fN w (w.2.2.1++dA ms c id l)).1,(fN w (w.2.2.1++dA ms c id l)).2.1,(fN w (w.2.2.1++dA ms c id l)).2.2.1,(fN w (w.2.2.1++dA ms c id l)).2.2.2.1,()):=by
 have l1:=ck (round:=iW) (e:=.inl ((fN w (w.2.2.1++dA ms c id l)).1,(fN w (w.2.2.1++dA ms c id l)).2.1,(fN w (w.2.2.1++dA ms c id l)).2.2.1,(fN w (w.2.2.1++dA ms c id l)).2.2.2.1,())) l.length (fun i=>((fN w (w.2.2.1++dA ms c id (l.take i))).1,(fN w (w.2.2.1++dA ms c id (l.take i))).2.1,(fN w (w.2.2.1++dA ms c id (l.take i))).2.2.1,(fN w (w.2.2.1++dA ms c id (l.take i))).2.2.2.1,id,l,c,ms,((i:Nat):Int),())) (by
  simp only [iW,bC,tg,eE,aM,cond_false,List.take_length]) (fun i hi=>by
  have hb:=zN ms c id h1 (l.take i);rw [List.length_take] at hb;have l2:=ck (round:=ki) (e:=.inl ((fN w (w.2.2.1++dA ms c id (l.take i)++eP ms c id l[i])).1,(fN w (w.2.2.1++dA ms c id (l.take i)++eP ms c id l[i])).2.1,(fN w (w.2.2.1++dA ms c id (l.take i)++eP ms c id l[i])).2.2.1,(fN w (w.2.2.1++dA ms c id (l.take i)++eP ms c id l[i])).2.2.2.1,id,l,c,ms,((i:Nat):Int),())) ms.length (fun k=>((fN w (w.2.2.1++dA ms c id (l.take i)++eP (ms.take k) c id l[i])).1,(fN w (w.2.2.1++dA ms c id (l.take i)++eP (ms.take k) c id l[i])).2.1,(fN w (w.2.2.1++dA ms c id (l.take i)++eP (ms.take k) c id l[i])).2.2.1,(fN w (w.2.2.1++dA ms c id (l.take i)++eP (ms.take k) c id l[i])).2.2.2.1,id,l,c,ms,((i:Nat):Int),((k:Nat):Int),())) (by
   simp only [ki,bC,tf,aw,aA,aM,cond_false,List.take_length]) (fun k hk=>by
   have MP:=Ew (ms.take k) c id l[i];rw [List.length_take] at MP;have hs:=Eu (fN w (w.2.2.1++dA ms c id (l.take i)++eP (ms.take k) c id l[i])) (by
    show (w.2.2.1++dA ms c id (l.take i)++eP (ms.take k) c id l[i]).length≤_;rw [List.length_append,List.length_append];omega) (Ev ms[k].1 c l[i])
   have hs:fa w.1 w.2.1 (w.2.2.1++dA ms c id (l.take i)++eP (ms.take k) c id l[i]) w.2.2.2.1 1 ms[k].1 c (l[i]).1 (l[i]).2.1 (l[i]).2.2.1 (l[i]).2.2.2.1 0 0 0 0 0 [] 0 0 0 []=_:=hs;simp only [ki,bC,tf,aw,aA,aE hk,ax,cond_true,aF,List.getElem?_eq_getElem hk,List.getElem?_eq_getElem hi,Option.bind_some,aN (show k<4611686018427387904 by omega),JD ms c id l[i] hk]
   cases decide (ms[k].1=id)
   ·simp only [Bool.not_false,cond_true,fN] at hs ⊢;rw [hs];simp only [Option.bind_some,List.append_assoc]
   ·simp only [Bool.not_true,cond_false,List.append_nil])
  have l2:aJ ki ((fN w (w.2.2.1++dA ms c id (l.take i)++eP (ms.take 0) c id l[i])).1,(fN w (w.2.2.1++dA ms c id (l.take i)++eP (ms.take 0) c id l[i])).2.1,(fN w (w.2.2.1++dA ms c id (l.take i)++eP (ms.take 0) c id l[i])).2.2.1,(fN w (w.2.2.1++dA ms c id (l.take i)++eP (ms.take 0) c id l[i])).2.2.2.1,id,l,c,ms,((i:Nat):Int),(0:Int),())=_:=l2;rw [show eP (ms.take 0) c id l[i]=[] from rfl,List.append_nil] at l2;simp only [iW,bC,tg,eE,aE hi,cond_true,l2,cg,Option.bind_some,aN (show i<4611686018427387904 by omega),OT ms c id l hi,List.append_assoc])
 have l1:aJ iW ((fN w (w.2.2.1++dA ms c id (l.take 0))).1,(fN w (w.2.2.1++dA ms c id (l.take 0))).2.1,(fN w (w.2.2.1++dA ms c id (l.take 0))).2.2.1,(fN w (w.2.2.1++dA ms c id (l.take 0))).2.2.2.1,id,l,c,ms,(0:Int),())=_:=l1;rw [show dA ms c id (l.take 0)=[] from rfl,List.append_nil] at l1;unfold ob;have l1:aJ iW (w.1,w.2.1,w.2.2.1,w.2.2.2.1,id,l,c,ms,(0:Int),())=_:=l1;rw [l1];rfl
theorem aaQ (a b:Nat):Int.tmod ((a:Nat):Int) ((b:Nat):Int)=((a % b:Nat):Int):=rfl
theorem X3 {c:Int} {xs:dC} (hr:js c xs) {id:Int} (hm:(id,())∈xs):∃b,wN c xs id=some (b,())∧1≤b∧b≤5:=by
 have hl:=hr.2.1.2;have h:xs.length≤1048576:=by omega
 unfold wN;rw [(ou c xs h).1,(ou c xs h).2.2.2 hr];obtain ⟨e,he,b,rfl,hb⟩:=dG (round:=nI) (x:=(id,c,xs,((0:Nat):Int),())) xs.length (fun k x=>x=(id,c,xs,((k:Nat):Int),())∧∀j (hj:j<xs.length),j<k→xs[j].1≠id) (fun e=>∃b,e=.inr (b,())∧1≤b∧b≤5) (by
   rintro x ⟨_,g⟩
   obtain ⟨j,hj,e⟩:=List.mem_iff_getElem.1 hm;exact absurd (congrArg Prod.fst e) (g j hj hj)) (by
   rintro k x hk ⟨rfl,g⟩
   have LG:(k+1) % xs.length<xs.length:=Nat.mod_lt _ (by omega);simp only [nI,aw,AZ,aE hk,ax,cond_true,aF,List.getElem?_eq_getElem hk,Option.bind_some,aN (show k<4611686018427387904 by omega),aaQ,List.getElem?_eq_getElem LG,aq (show ¬((List.length xs:Nat):Int)=0 by omega),cond_false]
   by_cases e:xs[k].1=id
   ·rw [ak e];exact .inl ⟨_,rfl,_,rfl,(hr.2.2 _ LG LG).1⟩
   ·rw [aq e];refine .inr ⟨_,rfl,rfl,fun j hj Nx => ?_⟩
    by_cases e2:j=k
    ·subst e2;exact e
    ·exact g j hj (by omega)) ⟨rfl,fun j _ h=>by omega⟩
 have he:aJ nI (id,c,xs,(0:Int),())=some _:=he;simp only [Option.bind_some,Bool.not_true,cond_false,he];exact ⟨b,rfl,hb⟩
theorem Ll (w:mr) {c:Int} {ms:dC} (hr:js c ms) {id:Int} (hm:(id,())∈ms) (t:lT) (h2:w.2.2.1.length≤1073741824) (h3:t.2.2.2.2.2.1.length≤1048576):∃B7,(1≤B7∧B7≤5)∧mc w.1 w.2.1 w.2.2.1 w.2.2.2.1 c ms id t.1 t.2.1 t.2.2.1 t.2.2.2.1 t.2.2.2.2.1 t.2.2.2.2.2.1=some ((fN w (w.2.2.1++[xv B7 c t])).1,(fN w (w.2.2.1++[xv B7 c t])).2.1,(fN w (w.2.2.1++[xv B7 c t])).2.2.1,(fN w (w.2.2.1++[xv B7 c t])).2.2.2.1,()):=by
 obtain ⟨v,hv,hb⟩:=X3 hr hm;have hs:=Eu w h2 (xv v c t);have hs:fa w.1 w.2.1 w.2.2.1 w.2.2.2.1 2 v c 0 0 0 ByteArray.empty t.1 t.2.1 t.2.2.1 t.2.2.2.1 t.2.2.2.2.1 t.2.2.2.2.2.1 0 0 0 []=_:=hs;refine ⟨v,hb,?_⟩;unfold mc;delta aP;simp only [hv,Option.bind_some,(mo t.1 t.2.1 t.2.2.1 t.2.2.2.1 t.2.2.2.2.1 t.2.2.2.2.2.1 h3).1,hs]
end Go.TM
