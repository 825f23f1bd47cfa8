/- What a member does that holds a token. -/
import Derived.Test.YtiljcjnnhkidbaaGreatNPHoldL
set_option linter.unusedSimpArgs false
set_option linter.unusedVariables false
namespace Go.TM
open Go
theorem qW.id {m:iG} (h:qW m):1≤m.1∧m.1≤5:=by
 obtain ⟨k,hk,e⟩:=List.mem_iff_getElem.1 h.mem;have:=(h.ring.2.2 k hk hk).1;rw [e] at this;exact this
theorem QT {list:aU} {xs:dG} {ms:List Int} {c c2:Int} (hx:xB c xs xs.length) (hc:c≤c2) (hm:∀s∈ms,1≤s∧s≤c2):xB c2 (bF (mF list xs ms)) (bF (mF list xs ms)).length:=by
 have hp:(mF list xs ms).Pairwise (· < ·):=List.Pairwise.sublist (List.take_sublist _ _) (List.Pairwise.filter _ (Gm 60));have Gw:∀s∈mF list xs ms,1≤s∧s≤c2:=by
  intro s hs;have h1:=List.mem_of_mem_take hs;have h2:=(List.mem_filter.1 h1).2;unfold jq at h2;rw [Bool.or_eq_true,Bool.and_eq_true,decide_eq_true_eq,decide_eq_true_eq] at h2;rcases h2 with ⟨_,h2⟩ | h2
  ·unfold cm at h2;obtain ⟨r,hr,rfl⟩:=List.mem_map.1 h2;obtain ⟨k,hk,rfl⟩:=List.mem_iff_getElem.1 hr;have:=hx k hk hk;exact ⟨this.1,by omega⟩
  ·exact hm s h2
 intro k hk _;have Jf:k<(mF list xs ms).length:=by rwa [dS] at hk
 have e:∀j (hj:j<(bF (mF list xs ms)).length) (hj':j<(mF list xs ms).length),(bF (mF list xs ms))[j].1=(mF list xs ms)[j]:=by intro j hj hj';simp [bF]
 rw [e k hk Jf];refine ⟨(Gw _ (List.getElem_mem Jf)).1,(Gw _ (List.getElem_mem Jf)).2,fun h0 => ?_⟩;rw [e (k-1) (by omega) (by omega)];exact List.pairwise_iff_getElem.1 hp (k-1) k (by omega) Jf (by omega)
theorem yc.drop {l:dG} (h:yc l l.length) (k:Nat):yc (l.drop k) (l.drop k).length:=by
 intro j hj _;rw [List.getElem_drop];rw [List.length_drop] at hj;exact h (k+j) (by omega) (by omega)
theorem kI.drop {l:List (ByteArray×Unit)} (h:kI l l.length) (k:Nat):kI (l.drop k) (l.drop k).length:=by
 intro j hj _;rw [List.getElem_drop];rw [List.length_drop] at hj;exact h (k+j) (by omega) (by omega)
structure al9 (m:iG) (t:kJ) (n:iG) (said:aU) (k:Nat) (nx:kJ):Prop where
 GK:k≤3∧k≤m.2.2.2.2.2.1.length∧t.2.2.1+((k:Nat):Int)≤60
 said:said=xa t m.2.2.2.1++eM t.2.2.1 m.1 m.2.2.2.2.1 m.2.2.2.2.2.1 k
 id:n.1=m.1∧n.2.1=m.2.1∧n.2.2.1=m.2.2.1
 items:n.2.2.2.1=cP m.2.2.2.1 (eM t.2.2.1 m.1 m.2.2.2.2.1 m.2.2.2.2.2.1 k)
 words:n.2.2.2.2.1=m.2.2.2.2.1.drop k∧n.2.2.2.2.2.1=m.2.2.2.2.2.1.drop k
 round:n.2.2.2.2.2.2.1=t.2.1∧n.2.2.2.2.2.2.2.1=t.2.2.2.1∧m.2.2.2.2.2.2.2.2.1≤n.2.2.2.2.2.2.2.2.1∧n.2.2.2.2.2.2.2.2.2.1=m.2.2.2.2.2.2.2.2.2.1
 last:(n.2.2.2.2.2.2.2.2.2.2.1,n.2.2.2.2.2.2.2.2.2.2.2.1,n.2.2.2.2.2.2.2.2.2.2.2.2.1,n.2.2.2.2.2.2.2.2.2.2.2.2.2.1,n.2.2.2.2.2.2.2.2.2.2.2.2.2.2.1,n.2.2.2.2.2.2.2.2.2.2.2.2.2.2.2.1,())=nx
 nq:qW n
 tq:JL nx
 next:nx.1=t.1∧nx.2.1=t.2.1+1∧nx.2.2.1=t.2.2.1+((k:Nat):Int)
 xD:k=min 3 m.2.2.2.2.2.1.length∨t.2.2.1+((k:Nat):Int)=60
 marks:nx.2.2.2.1=En (t.2.2.1+((k:Nat):Int)) (if t.2.2.2.1=t.2.2.1∧t.2.2.2.2.1=0 then t.2.2.1+((k:Nat):Int) else t.2.2.2.1) t.2.2.2.2.1 m.1 ((cY n.2.2.2.1:Nat):Int)∧nx.2.2.2.2.1=Eo (t.2.2.1+((k:Nat):Int)) (if t.2.2.2.1=t.2.2.1∧t.2.2.2.2.1=0 then t.2.2.1+((k:Nat):Int) else t.2.2.2.1) t.2.2.2.2.1 m.1 ((cY n.2.2.2.1:Nat):Int)
 line:n.2.2.2.2.2.2.2.2.1=m.2.2.2.2.2.2.2.2.1∨(n.2.2.2.2.2.2.2.2.1≤m.2.2.2.2.2.2.2.1∧n.2.2.2.2.2.2.2.2.1≤t.2.2.2.1∧n.2.2.2.2.2.2.2.2.1≤((cY n.2.2.2.1:Nat):Int))
 Lx:∀s∈cm nx.2.2.2.2.2.1,hasB n.2.2.2.1 s=false
 reach:∀x:Int,x≤m.2.2.2.2.2.2.2.1→x≤t.2.2.2.1→x≤((cY n.2.2.2.1:Nat):Int)→x≤n.2.2.2.2.2.2.2.2.1
theorem aak (m:iG) (t:kJ) (hm:qW m) (ht:JL t) (hc:t.1=m.2.1) (hr1:m.2.2.2.2.2.2.1<t.2.1) (hr2:t.2.1<1000000000) :
  ∃(n:iG) (said:aU) (k:Nat) (nx:kJ),al9 m t n said k nx∧lE m.1 m.2.1 m.2.2.1 m.2.2.2.1 m.2.2.2.2.1 m.2.2.2.2.2.1 m.2.2.2.2.2.2.1 m.2.2.2.2.2.2.2.1 m.2.2.2.2.2.2.2.2.1 m.2.2.2.2.2.2.2.2.2.1 m.2.2.2.2.2.2.2.2.2.2.1 m.2.2.2.2.2.2.2.2.2.2.2.1 m.2.2.2.2.2.2.2.2.2.2.2.2.1 m.2.2.2.2.2.2.2.2.2.2.2.2.2.1 m.2.2.2.2.2.2.2.2.2.2.2.2.2.2.1 m.2.2.2.2.2.2.2.2.2.2.2.2.2.2.2.1 t.1 t.2.1 t.2.2.1 t.2.2.2.1 t.2.2.2.2.1 t.2.2.2.2.2.1=some (n.1,n.2.1,n.2.2.1,n.2.2.2.1,n.2.2.2.2.1,n.2.2.2.2.2.1,n.2.2.2.2.2.2.1,n.2.2.2.2.2.2.2.1,n.2.2.2.2.2.2.2.2.1,n.2.2.2.2.2.2.2.2.2.1,n.2.2.2.2.2.2.2.2.2.2.1,n.2.2.2.2.2.2.2.2.2.2.2.1,n.2.2.2.2.2.2.2.2.2.2.2.2.1,n.2.2.2.2.2.2.2.2.2.2.2.2.2.1,n.2.2.2.2.2.2.2.2.2.2.2.2.2.2.1,n.2.2.2.2.2.2.2.2.2.2.2.2.2.2.2.1,said,((k:Nat):Int),nx.1,nx.2.1,nx.2.2.1,nx.2.2.2.1,nx.2.2.2.2.1,nx.2.2.2.2.2.1,true,())∧lu m.1 m.2.1 m.2.2.1 m.2.2.2.1 m.2.2.2.2.1 m.2.2.2.2.2.1 m.2.2.2.2.2.2.1 m.2.2.2.2.2.2.2.1 m.2.2.2.2.2.2.2.2.1 m.2.2.2.2.2.2.2.2.2.1 m.2.2.2.2.2.2.2.2.2.2.1 m.2.2.2.2.2.2.2.2.2.2.2.1 m.2.2.2.2.2.2.2.2.2.2.2.2.1 m.2.2.2.2.2.2.2.2.2.2.2.2.2.1 m.2.2.2.2.2.2.2.2.2.2.2.2.2.2.1 m.2.2.2.2.2.2.2.2.2.2.2.2.2.2.2.1 t.1 t.2.1 t.2.2.1 t.2.2.2.1 t.2.2.2.2.1 t.2.2.2.2.2.1=some (n.1,n.2.1,n.2.2.1,n.2.2.2.1,n.2.2.2.2.1,n.2.2.2.2.2.1,n.2.2.2.2.2.2.1,n.2.2.2.2.2.2.2.1,n.2.2.2.2.2.2.2.2.1,n.2.2.2.2.2.2.2.2.2.1,n.2.2.2.2.2.2.2.2.2.2.1,n.2.2.2.2.2.2.2.2.2.2.2.1,n.2.2.2.2.2.2.2.2.2.2.2.2.1,n.2.2.2.2.2.2.2.2.2.2.2.2.2.1,n.2.2.2.2.2.2.2.2.2.2.2.2.2.2.1,n.2.2.2.2.2.2.2.2.2.2.2.2.2.2.2.1,said,nx.1,nx.2.1,nx.2.2.1,nx.2.2.2.1,nx.2.2.2.2.1,nx.2.2.2.2.2.1,true,()):=by
 have wC:=hm.id;have hW:=hm.small;have hw:=hW;unfold mg at hw;have hwl:t.2.2.2.2.2.1.length≤20:=ht.2.2.2.2.2.1;obtain ⟨k,t3,hN,q1,q2,q3,q4,q5,q6⟩:=QO t.1 t.2.1 t.2.2.1 t.2.2.2.1 t.2.2.2.2.1 t.2.2.2.2.2.1 m.1 m.2.2.2.2.1 m.2.2.2.2.2.1 (by omega) (by omega) wC ht;obtain ⟨o0,o1,o2,o3,o4,o5,o6,s1,s2,_⟩:=MH t.1 t.2.1 t.2.2.1 t.2.2.2.1 t.2.2.2.2.1 t.2.2.2.2.2.1 m.1 m.2.2.2.2.1 m.2.2.2.2.2.1 (by omega);rw [hN] at s2;injection s2 with s2;simp only [Prod.mk.injEq] at s2;obtain ⟨rfl,rfl,rfl,rfl,rfl,rfl,rfl,_⟩:=s2;have hF:∀f∈eM t.2.2.1 m.1 m.2.2.2.2.1 m.2.2.2.2.2.1 k,p8 f:=Gp ⟨ht.2.2.1.1,q3⟩ wC q2 hm.short;have hFl:=qZ t.2.2.1 m.1 m.2.2.2.2.1 m.2.2.2.2.2.1 k;generalize hFF:eM t.2.2.1 m.1 m.2.2.2.2.1 m.2.2.2.2.2.1 k=F at *;subst hFl;have hi:=uR F hm.items hF;have his:=dm _ hi;have axi:=dm _ hm.items;obtain ⟨a1,a2,_⟩:=xC (cP m.2.2.2.1 F) (by omega);have auB:cY m.2.2.2.1≤cY (cP m.2.2.2.1 F):=OO (by omega) (by omega) fun r hr=>⟨r,Gn F hr,rfl⟩
 obtain ⟨z0,z1,z2,z3,z4,z5,z6⟩:=ht;have hw2:xB (t.2.2.1+((List.length F:Nat):Int)) t.2.2.2.2.2.1 t.2.2.2.2.2.1.length:=fun j hj V4=>by
  have:=z6 j hj V4;exact ⟨this.1,by omega,this.2.2⟩
 have ht3:0≤t3∧t3≤t.2.2.1+((List.length F:Nat):Int):=by
  have z3a:=z3.1;have z3b:=z3.2;have z2a:=z2.1;rcases q4 with e | e<;>rw [e]<;>omega
 have htq:JL (t.1,t.2.1,t.2.2.1+((List.length F:Nat):Int),t3,t.2.2.2.2.1,t.2.2.2.2.2.1,()):=⟨z0,z1,⟨by show 0≤t.2.2.1+_;omega,q3⟩,ht3,z4,z5,hw2⟩;obtain ⟨u1,_,u3⟩:=C2 (t.1,t.2.1,t.2.2.1+((List.length F:Nat):Int),t3,t.2.2.2.2.1,t.2.2.2.2.2.1,()) (by show t.2.2.2.2.2.1.length≤_;omega);rw [u3.2 htq] at u1;obtain ⟨t3',t4',m1,m2,_,m4,m5⟩:=Yp t.1 t.2.1 (t.2.2.1+((List.length F:Nat):Int)) t3 t.2.2.2.2.1 t.2.2.2.2.2.1 m.1 ((cY (cP m.2.2.2.1 F):Nat):Int) (by omega) u1;have m4:=m4 rfl wC.1 wC.2 (by omega) htq.2.2.2.1.1 htq.2.2.2.1.2;have m5:=m5 rfl wC.1 wC.2 (by omega);obtain ⟨ms,l1,l2,l3,l4⟩:=OL (cP m.2.2.2.1 F) (t.2.2.1+((List.length F:Nat):Int)) (by omega);have ls:=QQ t.1 t.2.1 (t.2.2.1+((List.length F:Nat):Int)) t3' t4' t.2.2.2.2.2.1 (cP m.2.2.2.1 F) ms (by omega) (by omega) l1 l3;have li:=QR t.1 t.2.1 (t.2.2.1+((List.length F:Nat):Int)) t3' t4' t.2.2.2.2.2.1 (cP m.2.2.2.1 F) ms (by omega) (by omega) l2 l3 (fun s hs=>⟨(l4 s hs).1,(l4 s hs).2.1.1,(l4 s hs).2.2⟩);have hlw:xB (t.2.2.1+((List.length F:Nat):Int)) (bF (mF (cP m.2.2.2.1 F) t.2.2.2.2.2.1 ms)) (bF (mF (cP m.2.2.2.1 F) t.2.2.2.2.2.1 ms)).length:=QT z6 (by omega) fun s hs=>⟨(l4 s hs).1,(l4 s hs).2.1.2⟩
 have Yh:(bF (mF (cP m.2.2.2.1 F) t.2.2.2.2.2.1 ms)).length≤20:=by
  rw [dS];unfold mF;rw [List.length_take];omega
 have hlk:∀s∈cm (bF (mF (cP m.2.2.2.1 F) t.2.2.2.2.2.1 ms)),hasB (cP m.2.2.2.1 F) s=false:=by
  rw [sF];intro s hs;have h2:=(List.mem_filter.1 (List.mem_of_mem_take hs)).2;unfold jq at h2;rw [Bool.or_eq_true,Bool.and_eq_true,decide_eq_true_eq,decide_eq_true_eq] at h2;rcases h2 with ⟨h2,_⟩ | h2
  ·simpa using h2
  ·exact (l4 s h2).2.2
 generalize bF (mF (cP m.2.2.2.1 F) t.2.2.2.2.2.1 ms)=W at *;have hrw:IntKind.i64.wrap (t.2.1+(1:Int))=t.2.1+1:=dq (by omega) (by omega);obtain ⟨c1,c2⟩:=mf t.1 (t.2.1+1) (t.2.2.1+((List.length F:Nat):Int)) t3' t4' W (by omega);have Qt:mg m≤1048576:=by omega
 obtain ⟨kb1,kb2,kb3⟩:=qX m Qt;rw [kb3.2 hm] at kb1 kb2;obtain ⟨kt1,kt2,kt3⟩:=C2 t (by omega);rw [kt3.2 ⟨z0,z1,z2,z3,z4,z5,z6⟩] at kt1 kt2;obtain ⟨p1,p2⟩:=nR m.1 m.2.1 m.2.2.1 m.2.2.2.1 m.2.2.2.2.1 m.2.2.2.2.2.1 m.2.2.2.2.2.2.1 m.2.2.2.2.2.2.2.1 m.2.2.2.2.2.2.2.2.1 m.2.2.2.2.2.2.2.2.2.1 m.2.2.2.2.2.2.2.2.2.2.1 m.2.2.2.2.2.2.2.2.2.2.2.1 m.2.2.2.2.2.2.2.2.2.2.2.2.1 m.2.2.2.2.2.2.2.2.2.2.2.2.2.1 m.2.2.2.2.2.2.2.2.2.2.2.2.2.2.1 m.2.2.2.2.2.2.2.2.2.2.2.2.2.2.2.1 Qt;obtain ⟨g1,g2⟩:=Ys t m.2.2.2.1 (by omega) (by omega);have hgl:=Yu t m.2.2.2.1;have htx:=hm.texts;generalize hLN:(if (if ((cY (cP m.2.2.2.1 F):Nat):Int)<(if t.2.2.2.1<m.2.2.2.2.2.2.2.1 then t.2.2.2.1 else m.2.2.2.2.2.2.2.1) then ((cY (cP m.2.2.2.1 F):Nat):Int) else (if t.2.2.2.1<m.2.2.2.2.2.2.2.1 then t.2.2.2.1 else m.2.2.2.2.2.2.2.1))>m.2.2.2.2.2.2.2.2.1 then (if ((cY (cP m.2.2.2.1 F):Nat):Int)<(if t.2.2.2.1<m.2.2.2.2.2.2.2.1 then t.2.2.2.1 else m.2.2.2.2.2.2.2.1) then ((cY (cP m.2.2.2.1 F):Nat):Int) else (if t.2.2.2.1<m.2.2.2.2.2.2.2.1 then t.2.2.2.1 else m.2.2.2.2.2.2.2.1)) else m.2.2.2.2.2.2.2.2.1)=line;have hle:m.2.2.2.2.2.2.2.2.1≤line:=by
  rw [←hLN]
  split<;>omega
 have hnx:JL (t.1,t.2.1+1,t.2.2.1+((List.length F:Nat):Int),t3',t4',W,()):=⟨z0,⟨by show 1≤t.2.1+1;omega,by show t.2.1+1≤1000000000;omega⟩,⟨by show 0≤t.2.2.1+_;have:=z2.1;omega,q3⟩,⟨m4.1,m4.2.1⟩,by
  have z4a:=z4.1;have z4b:=z4.2;show 0≤t4'∧t4'≤5;rcases m4.2.2.2.2 with e | e | ⟨e,_⟩<;>rw [e]<;>omega,Yh,hlw⟩
 refine ⟨(m.1,m.2.1,m.2.2.1,cP m.2.2.2.1 F,m.2.2.2.2.1.drop F.length,m.2.2.2.2.2.1.drop F.length,t.2.1,t.2.2.2.1,line,m.2.2.2.2.2.2.2.2.2.1,t.1,t.2.1+1,t.2.2.1+((List.length F:Nat):Int),t3',t4',W,()),xa t m.2.2.2.1++F,F.length,(t.1,t.2.1+1,t.2.2.1+((List.length F:Nat):Int),t3',t4',W,()),?_,?_,?_⟩
 ·have hn:qW (m.1,m.2.1,m.2.2.1,cP m.2.2.2.1 F,m.2.2.2.2.1.drop F.length,m.2.2.2.2.2.1.drop F.length,t.2.1,t.2.2.2.1,line,m.2.2.2.2.2.2.2.2.2.1,t.1,t.2.1+1,t.2.2.1+((List.length F:Nat):Int),t3',t4',W,()):={
   ring:=hm.ring
   mem:=hm.mem
   items:=hi
   texts:=⟨by show (m.2.2.2.2.2.1.drop F.length).length≤20;rw [List.length_drop];omega,by show (m.2.2.2.2.1.drop F.length).length=(m.2.2.2.2.2.1.drop F.length).length;rw [List.length_drop,List.length_drop];omega⟩
   YY:=hm.YY.drop _
   short:=hm.short.drop _
   round:=⟨by show 0≤t.2.1;omega,by show t.2.1≤1000000000;omega⟩
   seen:=⟨z3.1,by show t.2.2.2.1≤60;have:=z3.2;omega⟩
   line:=by
    have hl:=hm.line;have hs:=hm.seen;have ha:=z3.1;show 0≤line∧line≤((cY (cP m.2.2.2.1 F):Nat):Int);rw [←hLN]
    split<;>split<;>(try split)<;>omega
   heard:=by
    have hl:=hm.heard;show 0≤m.2.2.2.2.2.2.2.2.2.1∧m.2.2.2.2.2.2.2.2.2.1≤((cY (cP m.2.2.2.1 F):Nat):Int);omega
   last:=.inr hnx }
  have abP:F.length=min 3 m.2.2.2.2.2.1.length∨t.2.2.1+((F.length:Nat):Int)=60:=by
   rcases q5 with h | h | ⟨h,h'⟩
   ·exact .inl h
   ·exact .inr (by omega)
   ·have:=hm.short _ h h;omega
  have Yv:line=m.2.2.2.2.2.2.2.2.1∨(line≤m.2.2.2.2.2.2.2.1∧line≤t.2.2.2.1∧line≤((cY (cP m.2.2.2.1 F):Nat):Int)):=by
   rw [←hLN]
   split<;>split<;>(try split)<;>omega
  have ahg:∀x:Int,x≤m.2.2.2.2.2.2.2.1→x≤t.2.2.2.1→x≤((cY (cP m.2.2.2.1 F):Nat):Int)→x≤line:=by
   rw [←hLN];intro x x1 x2 x3
   split<;>split<;>(try split)<;>omega
  exact { GK:=⟨q1,q2,q3⟩,said:=by rw [hFF],id:=⟨rfl,rfl,rfl⟩,items:=by rw [hFF],words:=⟨rfl,rfl⟩,round:=⟨rfl,rfl,hle,rfl⟩,last:=rfl,nq:=hn,tq:=hnx,next:=⟨rfl,rfl,rfl⟩,xD:=abP,marks:=⟨m5.1.trans (by rw [q6]),m5.2.trans (by rw [q6])⟩,line:=Yv,Lx:=hlk,reach:=ahg }
 ·unfold lE;delta aw aT aA bt eC
  try simp only [dg]
  simp only [ak hc,aq (show ¬t.2.1≤m.2.2.2.2.2.2.1 by omega),aq (show ¬(1000000000:Int)≤t.2.1 by omega),kb2,kt2,p2,g2,hN,Option.bind_some,Bool.not_true,cond_false,cond_true,ax,aG,ak (show ((List.length F:Nat):Int)≤((List.length m.2.2.2.2.1:Nat):Int) by omega),ak (show ((List.length F:Nat):Int)≤((List.length m.2.2.2.2.2.1:Nat):Int) by omega)];rw [IY (hx:=hm.items) (hf:=hF) (hn:=by omega) ..];simp only [jI,a2,m2,li,hrw,c2,Option.bind_some,hLN];rw [aS (show ((xa t m.2.2.2.1).length+F.length)*40≤lim by unfold lim;omega)];rfl
 ·subst hLN;unfold lu;delta aw aT cS aA bt eC
  try simp only [dg]
  simp only [ak hc,aq (show ¬t.2.1≤m.2.2.2.2.2.2.1 by omega),aq (show ¬(1000000000:Int)≤t.2.1 by omega),kb1,kt1,p1,g1,s1,Option.bind_some,Bool.not_true,cond_false,cond_true,ax,aG,ak (show ((List.length F:Nat):Int)≤((List.length m.2.2.2.2.1:Nat):Int) by omega),ak (show ((List.length F:Nat):Int)≤((List.length m.2.2.2.2.2.1:Nat):Int) by omega),
   aS (show (0+(xa t m.2.2.2.1).length)*40≤lim by unfold lim;omega),aS (show (0+(List.drop F.length m.2.2.2.2.1).length)*8≤lim by rw [List.length_drop];unfold lim;omega),aS (show (0+(List.drop F.length m.2.2.2.2.2.1).length)*16≤lim by rw [List.length_drop];unfold lim;omega),List.nil_append]
  rw [IZ (hx:=hm.items) (hf:=hF) (hn:=by omega) ..];simp only [jI,a1,m1,Option.bind_some,aS (show ((xa t m.2.2.2.1).length+F.length)*40≤lim by unfold lim;omega),cond_true]
  by_cases h1:t.2.2.2.1<m.2.2.2.2.2.2.2.1
  ·rw [ak h1,if_pos h1];simp only [cond_true]
   by_cases h2:((cY (cP m.2.2.2.1 F):Nat):Int)<t.2.2.2.1
   ·rw [ak h2,if_pos h2];simp only [cond_true]
    by_cases h3:m.2.2.2.2.2.2.2.2.1<((cY (cP m.2.2.2.1 F):Nat):Int)
    ·rw [ak h3,if_pos (show ((cY (cP m.2.2.2.1 F):Nat):Int)>m.2.2.2.2.2.2.2.2.1 from h3)];simp only [cond_true,ls,hrw,c1,Option.bind_some]
    ·rw [aq h3,if_neg (show ¬((cY (cP m.2.2.2.1 F):Nat):Int)>m.2.2.2.2.2.2.2.2.1 from h3)];simp only [cond_false,ls,hrw,c1,Option.bind_some]
   ·rw [aq h2,if_neg h2];simp only [cond_false]
    by_cases h3:m.2.2.2.2.2.2.2.2.1<t.2.2.2.1
    ·rw [ak h3,if_pos (show t.2.2.2.1>m.2.2.2.2.2.2.2.2.1 from h3)];simp only [cond_true,ls,hrw,c1,Option.bind_some]
    ·rw [aq h3,if_neg (show ¬t.2.2.2.1>m.2.2.2.2.2.2.2.2.1 from h3)];simp only [cond_false,ls,hrw,c1,Option.bind_some]
  ·rw [aq h1,if_neg h1];simp only [cond_false]
   by_cases h2:((cY (cP m.2.2.2.1 F):Nat):Int)<m.2.2.2.2.2.2.2.1
   ·rw [ak h2,if_pos h2];simp only [cond_true]
    by_cases h3:m.2.2.2.2.2.2.2.2.1<((cY (cP m.2.2.2.1 F):Nat):Int)
    ·rw [ak h3,if_pos (show ((cY (cP m.2.2.2.1 F):Nat):Int)>m.2.2.2.2.2.2.2.2.1 from h3)];simp only [cond_true,ls,hrw,c1,Option.bind_some]
    ·rw [aq h3,if_neg (show ¬((cY (cP m.2.2.2.1 F):Nat):Int)>m.2.2.2.2.2.2.2.2.1 from h3)];simp only [cond_false,ls,hrw,c1,Option.bind_some]
   ·rw [aq h2,if_neg h2];simp only [cond_false]
    by_cases h3:m.2.2.2.2.2.2.2.2.1<m.2.2.2.2.2.2.2.1
    ·rw [ak h3,if_pos (show m.2.2.2.2.2.2.2.1>m.2.2.2.2.2.2.2.2.1 from h3)];simp only [cond_true,ls,hrw,c1,Option.bind_some]
    ·rw [aq h3,if_neg (show ¬m.2.2.2.2.2.2.2.1>m.2.2.2.2.2.2.2.2.1 from h3)];simp only [cond_false,ls,hrw,c1,Option.bind_some]
noncomputable def I0 (m:iG) (t:kJ):Bool:=sW m&&(JM t&&(decide (t.1=m.2.1)&&(decide (m.2.2.2.2.2.2.1<t.2.1)&&decide (t.2.1<1000000000))))
theorem aan (m:iG) (t:kJ) (h:mg m≤1048576) (hw:t.2.2.2.2.2.1.length≤1048576) (hn:I0 m t=false):lE m.1 m.2.1 m.2.2.1 m.2.2.2.1 m.2.2.2.2.1 m.2.2.2.2.2.1 m.2.2.2.2.2.2.1 m.2.2.2.2.2.2.2.1 m.2.2.2.2.2.2.2.2.1 m.2.2.2.2.2.2.2.2.2.1 m.2.2.2.2.2.2.2.2.2.2.1 m.2.2.2.2.2.2.2.2.2.2.2.1 m.2.2.2.2.2.2.2.2.2.2.2.2.1 m.2.2.2.2.2.2.2.2.2.2.2.2.2.1 m.2.2.2.2.2.2.2.2.2.2.2.2.2.2.1 m.2.2.2.2.2.2.2.2.2.2.2.2.2.2.2.1 t.1 t.2.1 t.2.2.1 t.2.2.2.1 t.2.2.2.2.1 t.2.2.2.2.2.1=some ((0:Int),(0:Int),[],[],[],[],(0:Int),(0:Int),(0:Int),(0:Int),(0:Int),(0:Int),(0:Int),(0:Int),(0:Int),[],[],(0:Int),(0:Int),(0:Int),(0:Int),(0:Int),(0:Int),[],false,())∧
  lu m.1 m.2.1 m.2.2.1 m.2.2.2.1 m.2.2.2.2.1 m.2.2.2.2.2.1 m.2.2.2.2.2.2.1 m.2.2.2.2.2.2.2.1 m.2.2.2.2.2.2.2.2.1 m.2.2.2.2.2.2.2.2.2.1 m.2.2.2.2.2.2.2.2.2.2.1 m.2.2.2.2.2.2.2.2.2.2.2.1 m.2.2.2.2.2.2.2.2.2.2.2.2.1 m.2.2.2.2.2.2.2.2.2.2.2.2.2.1 m.2.2.2.2.2.2.2.2.2.2.2.2.2.2.1 m.2.2.2.2.2.2.2.2.2.2.2.2.2.2.2.1 t.1 t.2.1 t.2.2.1 t.2.2.2.1 t.2.2.2.2.1 t.2.2.2.2.2.1=some (m.1,m.2.1,m.2.2.1,m.2.2.2.1,m.2.2.2.2.1,m.2.2.2.2.2.1,m.2.2.2.2.2.2.1,m.2.2.2.2.2.2.2.1,m.2.2.2.2.2.2.2.2.1,m.2.2.2.2.2.2.2.2.2.1,m.2.2.2.2.2.2.2.2.2.2.1,m.2.2.2.2.2.2.2.2.2.2.2.1,m.2.2.2.2.2.2.2.2.2.2.2.2.1,m.2.2.2.2.2.2.2.2.2.2.2.2.2.1,m.2.2.2.2.2.2.2.2.2.2.2.2.2.2.1,m.2.2.2.2.2.2.2.2.2.2.2.2.2.2.2.1,[],(0:Int),(0:Int),(0:Int),(0:Int),(0:Int),[],false,()):=by
 obtain ⟨k1,k2,_⟩:=qX m h;obtain ⟨t1,t2,_⟩:=C2 t hw;obtain ⟨p1,_⟩:=nR m.1 m.2.1 m.2.2.1 m.2.2.2.1 m.2.2.2.2.1 m.2.2.2.2.2.1 m.2.2.2.2.2.2.1 m.2.2.2.2.2.2.2.1 m.2.2.2.2.2.2.2.2.1 m.2.2.2.2.2.2.2.2.2.1 m.2.2.2.2.2.2.2.2.2.2.1 m.2.2.2.2.2.2.2.2.2.2.2.1 m.2.2.2.2.2.2.2.2.2.2.2.2.1 m.2.2.2.2.2.2.2.2.2.2.2.2.2.1 m.2.2.2.2.2.2.2.2.2.2.2.2.2.2.1 m.2.2.2.2.2.2.2.2.2.2.2.2.2.2.2.1 h;unfold I0 at hn
 constructor
 ·unfold lE;delta aw aT aA bt eC
  try simp only [dg]
  by_cases a1:t.1=m.2.1
  case neg=>rw [aq a1];rfl
  by_cases a2:m.2.2.2.2.2.2.1<t.2.1
  case neg=>rw [ak a1,ak (show t.2.1≤m.2.2.2.2.2.2.1 by omega)];rfl
  by_cases a3:t.2.1<1000000000
  case neg=>rw [ak a1,aq (show ¬t.2.1≤m.2.2.2.2.2.2.1 by omega),ak (show (1000000000:Int)≤t.2.1 by omega)];rfl
  rw [ak a1,ak a2,ak a3] at hn;rw [ak a1,aq (show ¬t.2.1≤m.2.2.2.2.2.2.1 by omega),aq (show ¬(1000000000:Int)≤t.2.1 by omega)];simp only [Bool.not_true,cond_false,k2,Option.bind_some]
  cases hb:sW m
  ·rfl
  ·rw [hb] at hn
   cases hc:JM t
   ·simp only [t2,hc,Bool.not_true,cond_false,Option.bind_some];rfl
   ·rw [hc] at hn;cases hn
 ·unfold lu;delta aw aT cS aA bt eC
  try simp only [dg]
  simp only [p1,k1,Option.bind_some]
  cases hb:sW m
  ·rfl
  simp only [Bool.not_true,cond_false,t1,Option.bind_some]
  cases hc:JM t
  ·rfl
  by_cases a1:t.1=m.2.1
  case neg=>rw [aq a1];rfl
  by_cases a2:m.2.2.2.2.2.2.1<t.2.1
  case neg=>rw [ak a1,ak (show t.2.1≤m.2.2.2.2.2.2.1 by omega)];rfl
  by_cases a3:t.2.1<1000000000
  case neg=>rw [ak a1,aq (show ¬t.2.1≤m.2.2.2.2.2.2.1 by omega),ak (show (1000000000:Int)≤t.2.1 by omega)];rfl
  rw [ak a1,ak a2,ak a3,hb,hc] at hn
  cases hn
end Go.TM
set_option linter.unusedSimpArgs false
set_option linter.unusedVariables false
namespace Go.TM
open Go
theorem aao {m:iG} (hm:qW m) {level:Int} {text:ByteArray} (hl:1≤level∧level≤2) (ht:ByteArray.size text≤60) (hn:m.2.2.2.2.2.1.length<20):ez m level text=(Gj m level text,true):=by
 have hb:=(qX m (Nat.le_trans hm.small (by decide))).2.2.2 hm;unfold ez QN;rw [hb,ak hl.1,ak hl.2,ak ht,ak hn];rfl
theorem Sf {m:iG} (hm:qW m) {level:Int} {text:ByteArray} (hl:1≤level∧level≤2) (ht:ByteArray.size text≤60) (hn:m.2.2.2.2.2.1.length<20):qW (Gj m level text):={
 ring:=hm.ring
 mem:=hm.mem
 items:=hm.items
 texts:=⟨by show (m.2.2.2.2.2.1++[(text,())]).length≤20;simp;omega,by show (m.2.2.2.2.1++[(level,())]).length=(m.2.2.2.2.2.1++[(text,())]).length;have:=hm.texts.2;simp;omega⟩
 YY:=fun j hj _=>by
  have hj:j<(m.2.2.2.2.1++[(level,())]).length:=hj;show (decide (1≤(m.2.2.2.2.1++[(level,())])[j].1)&&decide ((m.2.2.2.2.1++[(level,())])[j].1≤2))=true
  by_cases h:j<m.2.2.2.2.1.length
  ·rw [List.getElem_append_left h];exact hm.YY j h h
  ·have:j=m.2.2.2.2.1.length:=by simp at hj;omega
   subst this;simp [hl.1,hl.2]
 short:=fun j hj _=>by
  have hj:j<(m.2.2.2.2.2.1++[(text,())]).length:=hj;show ByteArray.size (m.2.2.2.2.2.1++[(text,())])[j].1≤60
  by_cases h:j<m.2.2.2.2.2.1.length
  ·rw [List.getElem_append_left h];exact hm.short j h h
  ·have:j=m.2.2.2.2.2.1.length:=by simp at hj;omega
   subst this;simpa using ht
 round:=hm.round
 seen:=hm.seen
 line:=hm.line
 heard:=hm.heard
 last:=hm.last }
def BR (l:aU):Prop:=∀k (hk:k<l.length),l[k].1=((k+1:Nat):Int)
theorem OQ {l:aU} (h:BR l) (hl:l.length≤1048576):cY l=l.length:=by
 obtain ⟨a0,_,a2⟩:=(xC l hl).2.2
 by_cases e:cY l<l.length
 ·have h1:=h _ e;have:(ey l ((cY l+1:Nat):Int)).isSome=true:=by
   unfold ey;rw [List.find?_isSome];exact ⟨l[cY l],List.getElem_mem e,by simp [h1]⟩
  rw [a2] at this
  cases this
 ·omega
theorem Yw {l:aU} (h:BR l) {s:Int} (h1:1≤s) (h2:s≤((l.length:Nat):Int)):hasB l s=true:=by
 obtain ⟨k,rfl⟩:=Int.eq_ofNat_of_zero_le (show 0≤s by omega);have hk:k-1<l.length:=by omega
 refine MM.2 ⟨l[k-1],List.getElem_mem hk,?_⟩;rw [h _ hk];omega
theorem OR {f:dY}:{xs:aU}→(∀x∈xs,x.1<f.1)→mh xs f=xs++[f]
 | [],_=>rfl
 |x::xs,h=>by
  have h1:=h x List.mem_cons_self;have ih:=OR (f:=f) (xs:=xs) fun y hy=>h y (List.mem_cons_of_mem _ hy)
  unfold mh;rw [if_pos h1,ih];rfl
theorem I1:(fs:aU)→{xs:aU}→(∀f∈fs,∀x∈xs,x.1<f.1)→fs.Pairwise (fun a b=>a.1<b.1)→cP xs fs=xs++fs
 | [],xs,_,_=>(List.append_nil xs).symm
 |f::fs,xs,h,hp=>by
  rw [List.pairwise_cons] at hp;show cP (mh xs f) fs=_;rw [OR (h f List.mem_cons_self),I1 fs (fun g hg x hx => ?_) hp.2,List.append_assoc]
  ·rfl
  ·rcases List.mem_append.1 hx with hx | hx
   ·exact h g (List.mem_cons_of_mem _ hg) x hx
   ·rw [List.mem_singleton] at hx;subst hx;exact hp.1 g hg
theorem uS {c2 d:Int} {lv:dG} {tx:List (ByteArray×Unit)} {m k:Nat} (hk:k<(eM c2 d lv tx m).length):(eM c2 d lv tx m)[k]=BQ c2 d lv tx k:=by
 simp [eM]
theorem MN {c2 d:Int} {lv:dG} {tx:List (ByteArray×Unit)} {m:Nat} {f:dY} (hf:f∈eM c2 d lv tx m):∃k,k<m∧f=BQ c2 d lv tx k:=by
 obtain ⟨k,hk,rfl⟩:=List.mem_iff_getElem.1 hf;rw [qZ] at hk;exact ⟨k,hk,uS _⟩
theorem JS {c2 d:Int} {lv:dG} {tx:List (ByteArray×Unit)} (m:Nat):(eM c2 d lv tx m).Pairwise (fun a b=>a.1<b.1):=by
 rw [List.pairwise_iff_getElem];intro i j hi hj VS;rw [uS,uS];show c2+((i+1:Nat):Int)<c2+((j+1:Nat):Int);omega
def yi (m:iG) (v:Int):iG:=(m.1,m.2.1,m.2.2.1,m.2.2.2.1,m.2.2.2.2.1,m.2.2.2.2.2.1,m.2.2.2.2.2.2.1,m.2.2.2.2.2.2.2.1,m.2.2.2.2.2.2.2.2.1,v,m.2.2.2.2.2.2.2.2.2.2)
theorem Sg {m:iG} (hm:qW m):∃(k:Nat) (n:iG),n=yi m (m.2.2.2.2.2.2.2.2.2.1+((k:Nat):Int))∧pY m.1 m.2.1 m.2.2.1 m.2.2.2.1 m.2.2.2.2.1 m.2.2.2.2.2.1 m.2.2.2.2.2.2.1 m.2.2.2.2.2.2.2.1 m.2.2.2.2.2.2.2.2.1 m.2.2.2.2.2.2.2.2.2.1 m.2.2.2.2.2.2.2.2.2.2.1 m.2.2.2.2.2.2.2.2.2.2.2.1 m.2.2.2.2.2.2.2.2.2.2.2.2.1 m.2.2.2.2.2.2.2.2.2.2.2.2.2.1 m.2.2.2.2.2.2.2.2.2.2.2.2.2.2.1 m.2.2.2.2.2.2.2.2.2.2.2.2.2.2.2.1=some (n.1,n.2.1,n.2.2.1,n.2.2.2.1,n.2.2.2.2.1,n.2.2.2.2.2.1,n.2.2.2.2.2.2.1,n.2.2.2.2.2.2.2.1,n.2.2.2.2.2.2.2.2.1,n.2.2.2.2.2.2.2.2.2.1,n.2.2.2.2.2.2.2.2.2.2.1,n.2.2.2.2.2.2.2.2.2.2.2.1,n.2.2.2.2.2.2.2.2.2.2.2.2.1,n.2.2.2.2.2.2.2.2.2.2.2.2.2.1,n.2.2.2.2.2.2.2.2.2.2.2.2.2.2.1,n.2.2.2.2.2.2.2.2.2.2.2.2.2.2.2.1,gV m.2.2.2.1 m.2.2.2.2.2.2.2.2.2.1 k,())∧oa m.1 m.2.1 m.2.2.1 m.2.2.2.1 m.2.2.2.2.1 m.2.2.2.2.2.1 m.2.2.2.2.2.2.1 m.2.2.2.2.2.2.2.1 m.2.2.2.2.2.2.2.2.1 m.2.2.2.2.2.2.2.2.2.1 m.2.2.2.2.2.2.2.2.2.2.1 m.2.2.2.2.2.2.2.2.2.2.2.1 m.2.2.2.2.2.2.2.2.2.2.2.2.1 m.2.2.2.2.2.2.2.2.2.2.2.2.2.1 m.2.2.2.2.2.2.2.2.2.2.2.2.2.2.1 m.2.2.2.2.2.2.2.2.2.2.2.2.2.2.2.1=some (n.1,n.2.1,n.2.2.1,n.2.2.2.1,n.2.2.2.2.1,n.2.2.2.2.2.1,n.2.2.2.2.2.2.1,n.2.2.2.2.2.2.2.1,n.2.2.2.2.2.2.2.2.1,n.2.2.2.2.2.2.2.2.2.1,n.2.2.2.2.2.2.2.2.2.2.1,n.2.2.2.2.2.2.2.2.2.2.2.1,n.2.2.2.2.2.2.2.2.2.2.2.2.1,n.2.2.2.2.2.2.2.2.2.2.2.2.2.1,n.2.2.2.2.2.2.2.2.2.2.2.2.2.2.1,n.2.2.2.2.2.2.2.2.2.2.2.2.2.2.2.1,gV m.2.2.2.1 m.2.2.2.2.2.2.2.2.2.1 k,())∧qW n∧
  m.2.2.2.2.2.2.2.2.2.1+((k:Nat):Int)≤((cY m.2.2.2.1:Nat):Int)∧(∀j,j<k→¬Bq m.2.2.2.1 m.2.2.2.2.2.2.2.2.1 (m.2.2.2.2.2.2.2.2.2.1+((j+1:Nat):Int)))∧(m.2.2.2.2.2.2.2.2.2.1+((k:Nat):Int)<((cY m.2.2.2.1:Nat):Int)→Bq m.2.2.2.1 m.2.2.2.2.2.2.2.2.1 (m.2.2.2.2.2.2.2.2.2.1+((k+1:Nat):Int))):=by
 have hw:=hm.small;have hb:=(qX m (Nat.le_trans hw (by decide))).2.2.2 hm;obtain ⟨k,v,h1,h2,h3,_,h5⟩:=OJ m (Nat.le_trans hw (by decide));subst h3;obtain ⟨g1,g2,g3⟩:=h5 hb;have hh:=hm.heard;exact ⟨k,_,rfl,h2,h1,{ ring:=hm.ring,mem:=hm.mem,items:=hm.items,texts:=hm.texts,YY:=hm.YY,short:=hm.short,round:=hm.round,seen:=hm.seen,line:=hm.line,heard:=⟨by show 0≤m.2.2.2.2.2.2.2.2.2.1+((k:Nat):Int);omega,g1⟩,last:=hm.last },g1,g2,g3⟩
end Go.TM
set_option linter.unusedSimpArgs false
set_option linter.unusedVariables false
namespace Go.TM
open Go
theorem MO (c:Int) (xs:List (Int×Unit)) (id:Int) (h:xs.length≤1048576) (hr:ec c xs=some (true,())) (hm:(id,())∈xs):fQ id c xs=some (id,c,xs,[],[],[],0,0,0,0,0,0,0,0,0,[],true,()):=by
 unfold fQ;simp only [hr,zH _ _ h,ak hm,Option.bind_some,Bool.not_true,cond_false,aS (show (0+xs.length)*8≤lim by unfold lim;omega),cond_true,List.nil_append]
theorem MP (c:Int) (xs:List (Int×Unit)) (id:Int) (h:xs.length≤1048576) (hr:gP c xs=some (true,())) (hm:(id,())∈xs):ji id c xs=some (id,c,xs,[],[],[],0,0,0,0,0,0,0,0,0,[],true,()):=by
 unfold ji bM;simp only [hr,MC _ _ h,ak hm,Option.bind_some,Bool.not_true,cond_false,lF xs h]
theorem map_take {α β:Type} (f:α→β) (xs:List α) {k:Nat} (hk:k<xs.length):(xs.take (k+1)).map f=(xs.take k).map f++[f xs[k]]:=by
 rw [List.take_succ_eq_append_getElem hk,List.map_append];rfl
end Go.TM
set_option linter.unusedSimpArgs false
set_option linter.unusedVariables false
namespace Go.TM
open Go
theorem Er (xs:List ea) (h:jm xs):gD xs=some (xs,()):=by
 have UM:=h.len;have hl:=ck (round:=cO) (e:=.inl (xs,())) xs.length (fun k=>(xs,xs.take k,((k:Nat):Int),())) (by
  simp only [cO,gu,aw,aA,aN,cond_false,List.take_length]) (fun k hk=>by
  simp only [cO,gu,aw,aA,aF hk,ax,cond_true,aG,List.getElem?_eq_getElem hk,Option.bind_some,(jn xs[k] (h.at hk)).1,List.length_take,Nat.min_eq_left (Nat.le_of_lt hk),aS (show (k+1)*48≤lim by unfold lim;omega),aM (show k<4611686018427387904 by omega)];rw [List.take_succ_eq_append_getElem hk])
 have hl:aJ cO (xs,[],(0:Int),())=_:=hl;unfold gD;rw [hl];rfl
theorem OS (xs:List EvR) {k:Nat} (hk:k<xs.length) (h:xs.length+wl bu xs≤4194304):xs[k].2.2.1.length≤4194304∧xs[k].2.2.2.2.2.2.2.1.length≤4194304:=by
 have hw:=HQ bu xs xs[k] (List.getElem_mem hk);have:bu xs[k]=(List.length xs[k].2.2.1+wl jR xs[k].2.2.1)+ByteArray.size xs[k].2.2.2.2.2.2.1+(List.length xs[k].2.2.2.2.2.2.2.1+wl jR xs[k].2.2.2.2.2.2.2.1):=rfl;omega
theorem FD (xs:List EvR) (h:xs.length+wl bu xs≤4194304):cX xs=some (xs,()):=by
 have hl:=ck (round:=cT) (e:=.inl (xs,())) xs.length (fun k=>(xs,xs.take k,((k:Nat):Int),())) (by
  simp only [cT,hM,aA,aN,cond_false,List.take_length]) (fun k hk=>by
  obtain ⟨e1,e2⟩:=OS xs hk h;simp only [cT,hM,aA,aF hk,ax,cond_true,aG,List.getElem?_eq_getElem hk,Option.bind_some,List.length_take,Nat.min_eq_left (Nat.le_of_lt hk),aS (show (0+xs[k].2.2.1.length)*8≤lim by unfold lim;omega),aS (show (0+xs[k].2.2.2.2.2.2.2.1.length)*8≤lim by unfold lim;omega),aS (show (k+1)*104≤lim by unfold lim;omega),aM (show k<4611686018427387904 by omega),List.nil_append];rw [List.take_succ_eq_append_getElem hk])
 have hl:aJ cT (xs,[],(0:Int),())=_:=hl;unfold cX;rw [hl];rfl
theorem OT (d:bY) (h1:mg (aE d)≤1048576) (h2:d.2.2.2.2.2.2.2.2.2.2.2.2.2.2.2.2.2.2.2.2.2.1.length≤1048576) (h3:jm d.2.2.2.2.2.2.2.2.2.2.2.2.2.2.2.2.2.2.2.2.2.2.1) (h4:d.2.2.2.2.2.2.2.2.2.2.2.2.2.2.2.2.2.2.2.2.2.2.2.1.length+wl bu d.2.2.2.2.2.2.2.2.2.2.2.2.2.2.2.2.2.2.2.2.2.2.2.1≤4194304):cq d.1 d.2.1 d.2.2.1 d.2.2.2.1 d.2.2.2.2.1 d.2.2.2.2.2.1 d.2.2.2.2.2.2.1 d.2.2.2.2.2.2.2.1 d.2.2.2.2.2.2.2.2.1 d.2.2.2.2.2.2.2.2.2.1 d.2.2.2.2.2.2.2.2.2.2.1 d.2.2.2.2.2.2.2.2.2.2.2.1 d.2.2.2.2.2.2.2.2.2.2.2.2.1 d.2.2.2.2.2.2.2.2.2.2.2.2.2.1 d.2.2.2.2.2.2.2.2.2.2.2.2.2.2.1 d.2.2.2.2.2.2.2.2.2.2.2.2.2.2.2.1 d.2.2.2.2.2.2.2.2.2.2.2.2.2.2.2.2.1 d.2.2.2.2.2.2.2.2.2.2.2.2.2.2.2.2.2.1 d.2.2.2.2.2.2.2.2.2.2.2.2.2.2.2.2.2.2.1 d.2.2.2.2.2.2.2.2.2.2.2.2.2.2.2.2.2.2.2.1 d.2.2.2.2.2.2.2.2.2.2.2.2.2.2.2.2.2.2.2.2.1 d.2.2.2.2.2.2.2.2.2.2.2.2.2.2.2.2.2.2.2.2.2.1 d.2.2.2.2.2.2.2.2.2.2.2.2.2.2.2.2.2.2.2.2.2.2.1 d.2.2.2.2.2.2.2.2.2.2.2.2.2.2.2.2.2.2.2.2.2.2.2.1=some d:=by
 have p:gr d.2.2.1 d.2.2.2.1 d.2.2.2.2.1 d.2.2.2.2.2.1 d.2.2.2.2.2.2.1 d.2.2.2.2.2.2.2.1 d.2.2.2.2.2.2.2.2.1 d.2.2.2.2.2.2.2.2.2.1 d.2.2.2.2.2.2.2.2.2.2.1 d.2.2.2.2.2.2.2.2.2.2.2.1 d.2.2.2.2.2.2.2.2.2.2.2.2.1 d.2.2.2.2.2.2.2.2.2.2.2.2.2.1 d.2.2.2.2.2.2.2.2.2.2.2.2.2.2.1 d.2.2.2.2.2.2.2.2.2.2.2.2.2.2.2.1 d.2.2.2.2.2.2.2.2.2.2.2.2.2.2.2.2.1 d.2.2.2.2.2.2.2.2.2.2.2.2.2.2.2.2.2.1=some (d.2.2.1,d.2.2.2.1,d.2.2.2.2.1,d.2.2.2.2.2.1,d.2.2.2.2.2.2.1,d.2.2.2.2.2.2.2.1,d.2.2.2.2.2.2.2.2.1,d.2.2.2.2.2.2.2.2.2.1,d.2.2.2.2.2.2.2.2.2.2.1,d.2.2.2.2.2.2.2.2.2.2.2.1,d.2.2.2.2.2.2.2.2.2.2.2.2.1,d.2.2.2.2.2.2.2.2.2.2.2.2.2.1,d.2.2.2.2.2.2.2.2.2.2.2.2.2.2.1,d.2.2.2.2.2.2.2.2.2.2.2.2.2.2.2.1,d.2.2.2.2.2.2.2.2.2.2.2.2.2.2.2.2.1,d.2.2.2.2.2.2.2.2.2.2.2.2.2.2.2.2.2.1,())∧fL d.2.2.1 d.2.2.2.1 d.2.2.2.2.1 d.2.2.2.2.2.1 d.2.2.2.2.2.2.1 d.2.2.2.2.2.2.2.1 d.2.2.2.2.2.2.2.2.1 d.2.2.2.2.2.2.2.2.2.1 d.2.2.2.2.2.2.2.2.2.2.1 d.2.2.2.2.2.2.2.2.2.2.2.1 d.2.2.2.2.2.2.2.2.2.2.2.2.1 d.2.2.2.2.2.2.2.2.2.2.2.2.2.1 d.2.2.2.2.2.2.2.2.2.2.2.2.2.2.1 d.2.2.2.2.2.2.2.2.2.2.2.2.2.2.2.1 d.2.2.2.2.2.2.2.2.2.2.2.2.2.2.2.2.1 d.2.2.2.2.2.2.2.2.2.2.2.2.2.2.2.2.2.1=some (d.2.2.1,d.2.2.2.1,d.2.2.2.2.1,d.2.2.2.2.2.1,d.2.2.2.2.2.2.1,d.2.2.2.2.2.2.2.1,d.2.2.2.2.2.2.2.2.1,d.2.2.2.2.2.2.2.2.2.1,d.2.2.2.2.2.2.2.2.2.2.1,d.2.2.2.2.2.2.2.2.2.2.2.1,d.2.2.2.2.2.2.2.2.2.2.2.2.1,d.2.2.2.2.2.2.2.2.2.2.2.2.2.1,d.2.2.2.2.2.2.2.2.2.2.2.2.2.2.1,d.2.2.2.2.2.2.2.2.2.2.2.2.2.2.2.1,d.2.2.2.2.2.2.2.2.2.2.2.2.2.2.2.2.1,d.2.2.2.2.2.2.2.2.2.2.2.2.2.2.2.2.2.1,()):=nR d.2.2.1 d.2.2.2.1 d.2.2.2.2.1 d.2.2.2.2.2.1 d.2.2.2.2.2.2.1 d.2.2.2.2.2.2.2.1 d.2.2.2.2.2.2.2.2.1 d.2.2.2.2.2.2.2.2.2.1 d.2.2.2.2.2.2.2.2.2.2.1 d.2.2.2.2.2.2.2.2.2.2.2.1 d.2.2.2.2.2.2.2.2.2.2.2.2.1 d.2.2.2.2.2.2.2.2.2.2.2.2.2.1 d.2.2.2.2.2.2.2.2.2.2.2.2.2.2.1 d.2.2.2.2.2.2.2.2.2.2.2.2.2.2.2.1 d.2.2.2.2.2.2.2.2.2.2.2.2.2.2.2.2.1 d.2.2.2.2.2.2.2.2.2.2.2.2.2.2.2.2.2.1 h1;unfold cq;delta cS;simp only [p.1,Er d.2.2.2.2.2.2.2.2.2.2.2.2.2.2.2.2.2.2.2.2.2.2.1 h3,FD d.2.2.2.2.2.2.2.2.2.2.2.2.2.2.2.2.2.2.2.2.2.2.2.1 h4,Option.bind_some,aS (show (0+(d.2.2.2.2.2.2.2.2.2.2.2.2.2.2.2.2.2.2.2.2.2.1).length)*8≤lim by unfold lim;omega),cond_true,List.nil_append]
noncomputable def Bs (d:bY):List wu:=[(2,d.2.2.2.1,d.2.2.2.2.1,0,0,0,ByteArray.empty,eZ d.2.2.2.2.2.2.2.2.2.2.2.2.2.2.2.2.2.2.2.2.2.2.1 d.2.2.2.2.2.2.2.2.2.2.2.2.2.2.2.2.2.2.2.2.1 d.2.2.2.2.2.2.2.2.2.2.2.2.2.2.2.2.2.2.2.2.2.1 d.1,())]++fE d.2.2.2.1 d.2.2.2.2.1 (uc d.2.2.2.2.2.2.2.2.2.2.2.2.2.2.2.2.2.2.2.2.2.2.1 d.2.2.2.2.2.2.2.2.2.2.2.2.2.2.2.2.2.2.2.2.1 d.2.2.2.2.2.2.2.2.2.2.2.2.2.2.2.2.2.2.2.2.2.1 d.1 d.2.2.2.2.2.2.2.2.2.2.2.1)
noncomputable def yj (d:bY):List wu:=bif decide (0<d.2.2.2.2.2.2.2.2.2.2.2.2.2.2.2.2.2.2.2.1) then d.2.2.2.2.2.2.2.2.2.2.2.2.2.2.2.2.2.2.2.2.2.2.2.1++Bs d else d.2.2.2.2.2.2.2.2.2.2.2.2.2.2.2.2.2.2.2.2.2.2.2.1
noncomputable def cC (d:bY):bY:=(d.1,d.2.1,d.1,d.2.2.2.2.2.2.2.2.2.2.2.2.2.2.2.2.2.2.2.2.1,d.2.2.2.2.2.2.2.2.2.2.2.2.2.2.2.2.2.2.2.2.2.1,[],d.2.2.2.2.2.2.1,d.2.2.2.2.2.2.2.1,0,0,0,0,0,0,0,0,0,[],d.2.2.2.2.2.2.2.2.2.2.2.2.2.2.2.2.2.2.1,d.2.2.2.2.2.2.2.2.2.2.2.2.2.2.2.2.2.2.2.2.1,0,[],[],yj d++[(3,d.2.2.2.2.2.2.2.2.2.2.2.2.2.2.2.2.2.2.2.2.1,d.2.2.2.2.2.2.2.2.2.2.2.2.2.2.2.2.2.2.2.2.2.1,0,0,0,ByteArray.empty,d.2.2.2.2.2.2.2.2.2.2.2.2.2.2.2.2.2.2.2.2.2.1,())],())
def I2 (d:bY):List wu:=d.2.2.2.2.2.2.2.2.2.2.2.2.2.2.2.2.2.2.2.2.2.2.2.1
def pD (d:bY) (l:List wu):bY:=(d.1,d.2.1,d.2.2.1,d.2.2.2.1,d.2.2.2.2.1,d.2.2.2.2.2.1,d.2.2.2.2.2.2.1,d.2.2.2.2.2.2.2.1,d.2.2.2.2.2.2.2.2.1,d.2.2.2.2.2.2.2.2.2.1,d.2.2.2.2.2.2.2.2.2.2.1,d.2.2.2.2.2.2.2.2.2.2.2.1,d.2.2.2.2.2.2.2.2.2.2.2.2.1,d.2.2.2.2.2.2.2.2.2.2.2.2.2.1,d.2.2.2.2.2.2.2.2.2.2.2.2.2.2.1,d.2.2.2.2.2.2.2.2.2.2.2.2.2.2.2.1,d.2.2.2.2.2.2.2.2.2.2.2.2.2.2.2.2.1,d.2.2.2.2.2.2.2.2.2.2.2.2.2.2.2.2.2.1,d.2.2.2.2.2.2.2.2.2.2.2.2.2.2.2.2.2.2.1,d.2.2.2.2.2.2.2.2.2.2.2.2.2.2.2.2.2.2.2.1,d.2.2.2.2.2.2.2.2.2.2.2.2.2.2.2.2.2.2.2.2.1,d.2.2.2.2.2.2.2.2.2.2.2.2.2.2.2.2.2.2.2.2.2.1,d.2.2.2.2.2.2.2.2.2.2.2.2.2.2.2.2.2.2.2.2.2.2.1,l,())
theorem MQ (d:bY) (c:Int) (ms:dG) (l:aU) (hr:ms.length≤1048576) (hl:l.length≤1048576) (hg:d.2.2.2.2.2.2.2.2.2.2.2.2.2.2.2.2.2.2.2.2.2.2.2.1.length≤1048577):aJ eG (d.1,d.2.1,d.2.2.1,d.2.2.2.1,d.2.2.2.2.1,d.2.2.2.2.2.1,d.2.2.2.2.2.2.1,d.2.2.2.2.2.2.2.1,d.2.2.2.2.2.2.2.2.1,d.2.2.2.2.2.2.2.2.2.1,d.2.2.2.2.2.2.2.2.2.2.1,d.2.2.2.2.2.2.2.2.2.2.2.1,d.2.2.2.2.2.2.2.2.2.2.2.2.1,d.2.2.2.2.2.2.2.2.2.2.2.2.2.1,d.2.2.2.2.2.2.2.2.2.2.2.2.2.2.1,d.2.2.2.2.2.2.2.2.2.2.2.2.2.2.2.1,d.2.2.2.2.2.2.2.2.2.2.2.2.2.2.2.2.1,d.2.2.2.2.2.2.2.2.2.2.2.2.2.2.2.2.2.1,d.2.2.2.2.2.2.2.2.2.2.2.2.2.2.2.2.2.2.1,d.2.2.2.2.2.2.2.2.2.2.2.2.2.2.2.2.2.2.2.1,d.2.2.2.2.2.2.2.2.2.2.2.2.2.2.2.2.2.2.2.2.1,d.2.2.2.2.2.2.2.2.2.2.2.2.2.2.2.2.2.2.2.2.2.1,d.2.2.2.2.2.2.2.2.2.2.2.2.2.2.2.2.2.2.2.2.2.2.1,d.2.2.2.2.2.2.2.2.2.2.2.2.2.2.2.2.2.2.2.2.2.2.2.1,c,ms,l,(0:Int),())=some (.inl (pD d (d.2.2.2.2.2.2.2.2.2.2.2.2.2.2.2.2.2.2.2.2.2.2.2.1++fE c ms l))):=by
 have l1:=ck (round:=eG) (e:=.inl (pD d (d.2.2.2.2.2.2.2.2.2.2.2.2.2.2.2.2.2.2.2.2.2.2.2.1++fE c ms l))) l.length (fun k=>(d.1,d.2.1,d.2.2.1,d.2.2.2.1,d.2.2.2.2.1,d.2.2.2.2.2.1,d.2.2.2.2.2.2.1,d.2.2.2.2.2.2.2.1,d.2.2.2.2.2.2.2.2.1,d.2.2.2.2.2.2.2.2.2.1,d.2.2.2.2.2.2.2.2.2.2.1,d.2.2.2.2.2.2.2.2.2.2.2.1,d.2.2.2.2.2.2.2.2.2.2.2.2.1,d.2.2.2.2.2.2.2.2.2.2.2.2.2.1,d.2.2.2.2.2.2.2.2.2.2.2.2.2.2.1,d.2.2.2.2.2.2.2.2.2.2.2.2.2.2.2.1,d.2.2.2.2.2.2.2.2.2.2.2.2.2.2.2.2.1,d.2.2.2.2.2.2.2.2.2.2.2.2.2.2.2.2.2.1,d.2.2.2.2.2.2.2.2.2.2.2.2.2.2.2.2.2.2.1,d.2.2.2.2.2.2.2.2.2.2.2.2.2.2.2.2.2.2.2.1,d.2.2.2.2.2.2.2.2.2.2.2.2.2.2.2.2.2.2.2.2.1,d.2.2.2.2.2.2.2.2.2.2.2.2.2.2.2.2.2.2.2.2.2.1,d.2.2.2.2.2.2.2.2.2.2.2.2.2.2.2.2.2.2.2.2.2.2.1,d.2.2.2.2.2.2.2.2.2.2.2.2.2.2.2.2.2.2.2.2.2.2.2.1++fE c ms (l.take k),c,ms,l,((k:Nat):Int),())) (by
  simp only [eG,az,aw,pM,aA,aN,cond_false,List.take_length,pD]) (fun k hk=>by
  have hlen:(d.2.2.2.2.2.2.2.2.2.2.2.2.2.2.2.2.2.2.2.2.2.2.2.1++fE c ms (l.take k)).length≤1048577+1048576:=by
   rw [List.length_append,oz,List.length_take];omega
  simp only [eG,az,aw,pM,aA,aF hk,ax,cond_true,aG,fZ hk,List.getElem?_eq_getElem hk,Option.bind_some,mR _ _ hr,aS (show ((d.2.2.2.2.2.2.2.2.2.2.2.2.2.2.2.2.2.2.2.2.2.2.2.1++fE c ms (l.take k)).length+1)*104≤lim by unfold lim;omega),aM (show k<4611686018427387904 by omega)];rw [Em hk])
 have l1:aJ eG (d.1,d.2.1,d.2.2.1,d.2.2.2.1,d.2.2.2.2.1,d.2.2.2.2.2.1,d.2.2.2.2.2.2.1,d.2.2.2.2.2.2.2.1,d.2.2.2.2.2.2.2.2.1,d.2.2.2.2.2.2.2.2.2.1,d.2.2.2.2.2.2.2.2.2.2.1,d.2.2.2.2.2.2.2.2.2.2.2.1,d.2.2.2.2.2.2.2.2.2.2.2.2.1,d.2.2.2.2.2.2.2.2.2.2.2.2.2.1,d.2.2.2.2.2.2.2.2.2.2.2.2.2.2.1,d.2.2.2.2.2.2.2.2.2.2.2.2.2.2.2.1,d.2.2.2.2.2.2.2.2.2.2.2.2.2.2.2.2.1,d.2.2.2.2.2.2.2.2.2.2.2.2.2.2.2.2.2.1,d.2.2.2.2.2.2.2.2.2.2.2.2.2.2.2.2.2.2.1,d.2.2.2.2.2.2.2.2.2.2.2.2.2.2.2.2.2.2.2.1,d.2.2.2.2.2.2.2.2.2.2.2.2.2.2.2.2.2.2.2.2.1,d.2.2.2.2.2.2.2.2.2.2.2.2.2.2.2.2.2.2.2.2.2.1,d.2.2.2.2.2.2.2.2.2.2.2.2.2.2.2.2.2.2.2.2.2.2.1,d.2.2.2.2.2.2.2.2.2.2.2.2.2.2.2.2.2.2.2.2.2.2.2.1++fE c ms (l.take 0),c,ms,l,(0:Int),())=_:=l1;rw [show fE c ms (l.take 0)=[] from rfl,List.append_nil] at l1;exact l1
theorem Us (d:bY) (l:aU) (hr:d.2.2.2.2.1.length≤1048576) (hl:l.length≤1048576) (hg:d.2.2.2.2.2.2.2.2.2.2.2.2.2.2.2.2.2.2.2.2.2.2.2.1.length≤1048577):jC d.1 d.2.1 d.2.2.1 d.2.2.2.1 d.2.2.2.2.1 d.2.2.2.2.2.1 d.2.2.2.2.2.2.1 d.2.2.2.2.2.2.2.1 d.2.2.2.2.2.2.2.2.1 d.2.2.2.2.2.2.2.2.2.1 d.2.2.2.2.2.2.2.2.2.2.1 d.2.2.2.2.2.2.2.2.2.2.2.1 d.2.2.2.2.2.2.2.2.2.2.2.2.1 d.2.2.2.2.2.2.2.2.2.2.2.2.2.1 d.2.2.2.2.2.2.2.2.2.2.2.2.2.2.1 d.2.2.2.2.2.2.2.2.2.2.2.2.2.2.2.1 d.2.2.2.2.2.2.2.2.2.2.2.2.2.2.2.2.1 d.2.2.2.2.2.2.2.2.2.2.2.2.2.2.2.2.2.1 d.2.2.2.2.2.2.2.2.2.2.2.2.2.2.2.2.2.2.1 d.2.2.2.2.2.2.2.2.2.2.2.2.2.2.2.2.2.2.2.1 d.2.2.2.2.2.2.2.2.2.2.2.2.2.2.2.2.2.2.2.2.1 d.2.2.2.2.2.2.2.2.2.2.2.2.2.2.2.2.2.2.2.2.2.1 d.2.2.2.2.2.2.2.2.2.2.2.2.2.2.2.2.2.2.2.2.2.2.1 d.2.2.2.2.2.2.2.2.2.2.2.2.2.2.2.2.2.2.2.2.2.2.2.1 l=some (pD d (d.2.2.2.2.2.2.2.2.2.2.2.2.2.2.2.2.2.2.2.2.2.2.2.1++fE d.2.2.2.1 d.2.2.2.2.1 l)):=by
 have l1:=ck (round:=gG) (e:=.inl (pD d (d.2.2.2.2.2.2.2.2.2.2.2.2.2.2.2.2.2.2.2.2.2.2.2.1++fE d.2.2.2.1 d.2.2.2.2.1 l))) l.length (fun k=>(d.1,d.2.1,d.2.2.1,d.2.2.2.1,d.2.2.2.2.1,d.2.2.2.2.2.1,d.2.2.2.2.2.2.1,d.2.2.2.2.2.2.2.1,d.2.2.2.2.2.2.2.2.1,d.2.2.2.2.2.2.2.2.2.1,d.2.2.2.2.2.2.2.2.2.2.1,d.2.2.2.2.2.2.2.2.2.2.2.1,d.2.2.2.2.2.2.2.2.2.2.2.2.1,d.2.2.2.2.2.2.2.2.2.2.2.2.2.1,d.2.2.2.2.2.2.2.2.2.2.2.2.2.2.1,d.2.2.2.2.2.2.2.2.2.2.2.2.2.2.2.1,d.2.2.2.2.2.2.2.2.2.2.2.2.2.2.2.2.1,d.2.2.2.2.2.2.2.2.2.2.2.2.2.2.2.2.2.1,d.2.2.2.2.2.2.2.2.2.2.2.2.2.2.2.2.2.2.1,d.2.2.2.2.2.2.2.2.2.2.2.2.2.2.2.2.2.2.2.1,d.2.2.2.2.2.2.2.2.2.2.2.2.2.2.2.2.2.2.2.2.1,d.2.2.2.2.2.2.2.2.2.2.2.2.2.2.2.2.2.2.2.2.2.1,d.2.2.2.2.2.2.2.2.2.2.2.2.2.2.2.2.2.2.2.2.2.2.1,d.2.2.2.2.2.2.2.2.2.2.2.2.2.2.2.2.2.2.2.2.2.2.2.1++fE d.2.2.2.1 d.2.2.2.2.1 (l.take k),l,((List.length l:Nat):Int),((k:Nat):Int),())) (by
  simp only [gG,az,oV,aA,aN,cond_false,List.take_length,pD]) (fun k hk=>by
  have hlen:(d.2.2.2.2.2.2.2.2.2.2.2.2.2.2.2.2.2.2.2.2.2.2.2.1++fE d.2.2.2.1 d.2.2.2.2.1 (l.take k)).length≤1048577+1048576:=by
   rw [List.length_append,oz,List.length_take];omega
  simp only [gG,az,oV,aA,aF hk,ax,cond_true,aG,List.getElem?_eq_getElem hk,Option.bind_some,mQ _ _ hr,aS (show ((d.2.2.2.2.2.2.2.2.2.2.2.2.2.2.2.2.2.2.2.2.2.2.2.1++fE d.2.2.2.1 d.2.2.2.2.1 (l.take k)).length+1)*104≤lim by unfold lim;omega),aM (show k<4611686018427387904 by omega)];rw [Em hk])
 have l1:aJ gG (d.1,d.2.1,d.2.2.1,d.2.2.2.1,d.2.2.2.2.1,d.2.2.2.2.2.1,d.2.2.2.2.2.2.1,d.2.2.2.2.2.2.2.1,d.2.2.2.2.2.2.2.2.1,d.2.2.2.2.2.2.2.2.2.1,d.2.2.2.2.2.2.2.2.2.2.1,d.2.2.2.2.2.2.2.2.2.2.2.1,d.2.2.2.2.2.2.2.2.2.2.2.2.1,d.2.2.2.2.2.2.2.2.2.2.2.2.2.1,d.2.2.2.2.2.2.2.2.2.2.2.2.2.2.1,d.2.2.2.2.2.2.2.2.2.2.2.2.2.2.2.1,d.2.2.2.2.2.2.2.2.2.2.2.2.2.2.2.2.1,d.2.2.2.2.2.2.2.2.2.2.2.2.2.2.2.2.2.1,d.2.2.2.2.2.2.2.2.2.2.2.2.2.2.2.2.2.2.1,d.2.2.2.2.2.2.2.2.2.2.2.2.2.2.2.2.2.2.2.1,d.2.2.2.2.2.2.2.2.2.2.2.2.2.2.2.2.2.2.2.2.1,d.2.2.2.2.2.2.2.2.2.2.2.2.2.2.2.2.2.2.2.2.2.1,d.2.2.2.2.2.2.2.2.2.2.2.2.2.2.2.2.2.2.2.2.2.2.1,d.2.2.2.2.2.2.2.2.2.2.2.2.2.2.2.2.2.2.2.2.2.2.2.1++fE d.2.2.2.1 d.2.2.2.2.1 (l.take 0),l,((List.length l:Nat):Int),(0:Int),())=_:=l1;rw [show fE d.2.2.2.1 d.2.2.2.2.1 (l.take 0)=[] from rfl,List.append_nil] at l1;unfold jC;rw [l1];rfl
theorem FE (xs:List ea) (c:Int) (ms:dG) (id heard:Int) (h:jm xs):(uc xs c ms id heard).length≤60∧wl dF (uc xs c ms id heard)≤3600:=QL xs c ms id heard h
theorem uT (d:bY) (hr:lU d.2.2.2.2.2.2.2.2.2.2.2.2.2.2.2.2.2.2.2.2.1 d.2.2.2.2.2.2.2.2.2.2.2.2.2.2.2.2.2.2.2.2.2.1) (hm:(d.1,())∈d.2.2.2.2.2.2.2.2.2.2.2.2.2.2.2.2.2.2.2.2.2.1) (h3:jm d.2.2.2.2.2.2.2.2.2.2.2.2.2.2.2.2.2.2.2.2.2.2.1) (h4:d.2.2.2.2.1.length≤1048576) (hg:d.2.2.2.2.2.2.2.2.2.2.2.2.2.2.2.2.2.2.2.2.2.2.2.1.length≤1048576):eL d.1 d.2.1 d.2.2.1 d.2.2.2.1 d.2.2.2.2.1 d.2.2.2.2.2.1 d.2.2.2.2.2.2.1 d.2.2.2.2.2.2.2.1 d.2.2.2.2.2.2.2.2.1 d.2.2.2.2.2.2.2.2.2.1 d.2.2.2.2.2.2.2.2.2.2.1 d.2.2.2.2.2.2.2.2.2.2.2.1 d.2.2.2.2.2.2.2.2.2.2.2.2.1 d.2.2.2.2.2.2.2.2.2.2.2.2.2.1 d.2.2.2.2.2.2.2.2.2.2.2.2.2.2.1 d.2.2.2.2.2.2.2.2.2.2.2.2.2.2.2.1 d.2.2.2.2.2.2.2.2.2.2.2.2.2.2.2.2.1 d.2.2.2.2.2.2.2.2.2.2.2.2.2.2.2.2.2.1 d.2.2.2.2.2.2.2.2.2.2.2.2.2.2.2.2.2.2.1 d.2.2.2.2.2.2.2.2.2.2.2.2.2.2.2.2.2.2.2.1 d.2.2.2.2.2.2.2.2.2.2.2.2.2.2.2.2.2.2.2.2.1 d.2.2.2.2.2.2.2.2.2.2.2.2.2.2.2.2.2.2.2.2.2.1 d.2.2.2.2.2.2.2.2.2.2.2.2.2.2.2.2.2.2.2.2.2.2.1 d.2.2.2.2.2.2.2.2.2.2.2.2.2.2.2.2.2.2.2.2.2.2.2.1=some (cC d)∧db d.1 d.2.1 d.2.2.1 d.2.2.2.1 d.2.2.2.2.1 d.2.2.2.2.2.1 d.2.2.2.2.2.2.1 d.2.2.2.2.2.2.2.1 d.2.2.2.2.2.2.2.2.1 d.2.2.2.2.2.2.2.2.2.1 d.2.2.2.2.2.2.2.2.2.2.1 d.2.2.2.2.2.2.2.2.2.2.2.1 d.2.2.2.2.2.2.2.2.2.2.2.2.1 d.2.2.2.2.2.2.2.2.2.2.2.2.2.1 d.2.2.2.2.2.2.2.2.2.2.2.2.2.2.1 d.2.2.2.2.2.2.2.2.2.2.2.2.2.2.2.1 d.2.2.2.2.2.2.2.2.2.2.2.2.2.2.2.2.1 d.2.2.2.2.2.2.2.2.2.2.2.2.2.2.2.2.2.1 d.2.2.2.2.2.2.2.2.2.2.2.2.2.2.2.2.2.2.1 d.2.2.2.2.2.2.2.2.2.2.2.2.2.2.2.2.2.2.2.1 d.2.2.2.2.2.2.2.2.2.2.2.2.2.2.2.2.2.2.2.2.1 d.2.2.2.2.2.2.2.2.2.2.2.2.2.2.2.2.2.2.2.2.2.1 d.2.2.2.2.2.2.2.2.2.2.2.2.2.2.2.2.2.2.2.2.2.2.1 d.2.2.2.2.2.2.2.2.2.2.2.2.2.2.2.2.2.2.2.2.2.2.2.1=some (cC d):=by
 have h5:=hr.2.1.2;have h5:d.2.2.2.2.2.2.2.2.2.2.2.2.2.2.2.2.2.2.2.2.2.1.length≤1048576:=by omega
 obtain ⟨q1,q2,q3⟩:=qU d.2.2.2.2.2.2.2.2.2.2.2.2.2.2.2.2.2.2.2.2.1 d.2.2.2.2.2.2.2.2.2.2.2.2.2.2.2.2.2.2.2.2.2.1 h5;rw [q3.2 hr] at q1 q2;have m1:=MO d.2.2.2.2.2.2.2.2.2.2.2.2.2.2.2.2.2.2.2.2.1 d.2.2.2.2.2.2.2.2.2.2.2.2.2.2.2.2.2.2.2.2.2.1 d.1 h5 q1 hm;have m2:=MP d.2.2.2.2.2.2.2.2.2.2.2.2.2.2.2.2.2.2.2.2.1 d.2.2.2.2.2.2.2.2.2.2.2.2.2.2.2.2.2.2.2.2.2.1 d.1 h5 q2 hm;obtain ⟨t1,t2,t3⟩:=sE d.2.2.2.2.2.2.2.2.2.2.2.2.2.2.2.2.2.2.2.2.1 d.2.2.2.2.2.2.2.2.2.2.2.2.2.2.2.2.2.2.2.2.2.1 d.2.2.2.2.2.2.2.2.2.2.2.2.2.2.2.2.2.2.2.2.2.2.1 d.1 h5 h3;obtain ⟨r1,r2⟩:=Uo d.2.2.2.2.2.2.2.2.2.2.2.2.2.2.2.2.2.2.2.2.1 d.2.2.2.2.2.2.2.2.2.2.2.2.2.2.2.2.2.2.2.2.2.1 d.2.2.2.2.2.2.2.2.2.2.2.2.2.2.2.2.2.2.2.2.2.2.1 d.1 d.2.2.2.2.2.2.2.2.2.2.2.1 h5 h3;obtain ⟨z1,z2⟩:=FE d.2.2.2.2.2.2.2.2.2.2.2.2.2.2.2.2.2.2.2.2.2.2.1 d.2.2.2.2.2.2.2.2.2.2.2.2.2.2.2.2.2.2.2.2.1 d.2.2.2.2.2.2.2.2.2.2.2.2.2.2.2.2.2.2.2.2.2.1 d.1 d.2.2.2.2.2.2.2.2.2.2.2.1 h3;have c1:=lF d.2.2.2.2.2.2.2.2.2.2.2.2.2.2.2.2.2.2.2.2.2.1 h5;have c2:=mQ d.2.2.2.2.2.2.2.2.2.2.2.2.2.2.2.2.2.2.2.2.1 d.2.2.2.2.2.2.2.2.2.2.2.2.2.2.2.2.2.2.2.2.2.1 h5;have c3:=mR d.2.2.2.2.2.2.2.2.2.2.2.2.2.2.2.2.2.2.2.2.1 d.2.2.2.2.2.2.2.2.2.2.2.2.2.2.2.2.2.2.2.2.2.1 h5;have c4:=mQ d.2.2.2.1 d.2.2.2.2.1 h4;have c5:=mR d.2.2.2.1 d.2.2.2.2.1 h4;generalize gM:uc d.2.2.2.2.2.2.2.2.2.2.2.2.2.2.2.2.2.2.2.2.2.2.1 d.2.2.2.2.2.2.2.2.2.2.2.2.2.2.2.2.2.2.2.2.1 d.2.2.2.2.2.2.2.2.2.2.2.2.2.2.2.2.2.2.2.2.2.1 d.1 d.2.2.2.2.2.2.2.2.2.2.2.1=rest at *;generalize ama:eZ d.2.2.2.2.2.2.2.2.2.2.2.2.2.2.2.2.2.2.2.2.2.2.1 d.2.2.2.2.2.2.2.2.2.2.2.2.2.2.2.2.2.2.2.2.1 d.2.2.2.2.2.2.2.2.2.2.2.2.2.2.2.2.2.2.2.2.2.1 d.1=Es at *;have hlen:(d.2.2.2.2.2.2.2.2.2.2.2.2.2.2.2.2.2.2.2.2.2.2.2.1++[((2,d.2.2.2.1,d.2.2.2.2.1,0,0,0,ByteArray.empty,Es,()):wu)]).length≤1048577:=by rw [List.length_append,List.length_singleton];omega
 have i1:=MQ (pD d (d.2.2.2.2.2.2.2.2.2.2.2.2.2.2.2.2.2.2.2.2.2.2.2.1++[(2,d.2.2.2.1,d.2.2.2.2.1,0,0,0,ByteArray.empty,Es,())])) d.2.2.2.1 d.2.2.2.2.1 rest h4 (by omega) hlen;have i2:=Us (pD d (d.2.2.2.2.2.2.2.2.2.2.2.2.2.2.2.2.2.2.2.2.2.2.2.1++[(2,d.2.2.2.1,d.2.2.2.2.1,0,0,0,ByteArray.empty,Es,())])) rest h4 (by omega) hlen;have i1:aJ eG (d.1,d.2.1,d.2.2.1,d.2.2.2.1,d.2.2.2.2.1,d.2.2.2.2.2.1,d.2.2.2.2.2.2.1,d.2.2.2.2.2.2.2.1,d.2.2.2.2.2.2.2.2.1,d.2.2.2.2.2.2.2.2.2.1,d.2.2.2.2.2.2.2.2.2.2.1,d.2.2.2.2.2.2.2.2.2.2.2.1,d.2.2.2.2.2.2.2.2.2.2.2.2.1,d.2.2.2.2.2.2.2.2.2.2.2.2.2.1,d.2.2.2.2.2.2.2.2.2.2.2.2.2.2.1,d.2.2.2.2.2.2.2.2.2.2.2.2.2.2.2.1,d.2.2.2.2.2.2.2.2.2.2.2.2.2.2.2.2.1,d.2.2.2.2.2.2.2.2.2.2.2.2.2.2.2.2.2.1,d.2.2.2.2.2.2.2.2.2.2.2.2.2.2.2.2.2.2.1,d.2.2.2.2.2.2.2.2.2.2.2.2.2.2.2.2.2.2.2.1,d.2.2.2.2.2.2.2.2.2.2.2.2.2.2.2.2.2.2.2.2.1,d.2.2.2.2.2.2.2.2.2.2.2.2.2.2.2.2.2.2.2.2.2.1,d.2.2.2.2.2.2.2.2.2.2.2.2.2.2.2.2.2.2.2.2.2.2.1,d.2.2.2.2.2.2.2.2.2.2.2.2.2.2.2.2.2.2.2.2.2.2.2.1++[(2,d.2.2.2.1,d.2.2.2.2.1,0,0,0,ByteArray.empty,Es,())],d.2.2.2.1,d.2.2.2.2.1,rest,(0:Int),())=some (.inl (pD d ((d.2.2.2.2.2.2.2.2.2.2.2.2.2.2.2.2.2.2.2.2.2.2.2.1++[(2,d.2.2.2.1,d.2.2.2.2.1,0,0,0,ByteArray.empty,Es,())])++fE d.2.2.2.1 d.2.2.2.2.1 rest))):=i1;have i2:jC d.1 d.2.1 d.2.2.1 d.2.2.2.1 d.2.2.2.2.1 d.2.2.2.2.2.1 d.2.2.2.2.2.2.1 d.2.2.2.2.2.2.2.1 d.2.2.2.2.2.2.2.2.1 d.2.2.2.2.2.2.2.2.2.1 d.2.2.2.2.2.2.2.2.2.2.1 d.2.2.2.2.2.2.2.2.2.2.2.1 d.2.2.2.2.2.2.2.2.2.2.2.2.1 d.2.2.2.2.2.2.2.2.2.2.2.2.2.1 d.2.2.2.2.2.2.2.2.2.2.2.2.2.2.1 d.2.2.2.2.2.2.2.2.2.2.2.2.2.2.2.1 d.2.2.2.2.2.2.2.2.2.2.2.2.2.2.2.2.1 d.2.2.2.2.2.2.2.2.2.2.2.2.2.2.2.2.2.1 d.2.2.2.2.2.2.2.2.2.2.2.2.2.2.2.2.2.2.1 d.2.2.2.2.2.2.2.2.2.2.2.2.2.2.2.2.2.2.2.1 d.2.2.2.2.2.2.2.2.2.2.2.2.2.2.2.2.2.2.2.2.1 d.2.2.2.2.2.2.2.2.2.2.2.2.2.2.2.2.2.2.2.2.2.1 d.2.2.2.2.2.2.2.2.2.2.2.2.2.2.2.2.2.2.2.2.2.2.1 (d.2.2.2.2.2.2.2.2.2.2.2.2.2.2.2.2.2.2.2.2.2.2.2.1++[(2,d.2.2.2.1,d.2.2.2.2.1,0,0,0,ByteArray.empty,Es,())]) rest=some (pD d ((d.2.2.2.2.2.2.2.2.2.2.2.2.2.2.2.2.2.2.2.2.2.2.2.1++[(2,d.2.2.2.1,d.2.2.2.2.1,0,0,0,ByteArray.empty,Es,())])++fE d.2.2.2.1 d.2.2.2.2.1 rest)):=i2;have Xb:Nat.ble ((d.2.2.2.2.2.2.2.2.2.2.2.2.2.2.2.2.2.2.2.2.2.2.2.1.length+1)*104) lim=true:=aS (by unfold lim;omega);have M4:Nat.ble ((((d.2.2.2.2.2.2.2.2.2.2.2.2.2.2.2.2.2.2.2.2.2.2.2.1++[((2,d.2.2.2.1,d.2.2.2.2.1,0,0,0,ByteArray.empty,Es,()):wu)])++fE d.2.2.2.1 d.2.2.2.2.1 rest).length+1)*104) lim=true:=aS (by rw [List.length_append,oz];unfold lim;omega);have hb3:Nat.ble ((0+d.2.2.2.2.2.2.2.2.2.2.2.2.2.2.2.2.2.2.2.2.2.1.length)*8) lim=true:=aS (by unfold lim;omega);unfold cC yj Bs;rw [gM,ama]
 by_cases ho:0<d.2.2.2.2.2.2.2.2.2.2.2.2.2.2.2.2.2.2.2.1
 ·constructor
  ·unfold eL;delta aA eC;simp only [ak ho,cond_true,c5,t1,Xb,r1,i1,bZ,Option.bind_some,pD,c3,hb3,M4,m1,List.nil_append];simp only [List.append_assoc]
  ·unfold db;delta aA eC;simp only [ak ho,cond_true,c4,t2,Xb,r2,i2,Option.bind_some,pD,c2,c1,M4,m2];simp only [List.append_assoc]
 ·constructor
  ·unfold eL;delta aA eC;simp only [aq ho,cond_false,cond_true,c3,Xb,hb3,m1,Option.bind_some,List.nil_append]
  ·unfold db;delta aA eC;simp only [aq ho,cond_false,cond_true,c2,c1,Xb,m2,Option.bind_some]
theorem MR (d:bY) (hr:d.2.2.2.2.2.2.2.2.2.2.2.2.2.2.2.2.2.2.2.2.2.1.length≤5) (h4:d.2.2.2.2.1.length≤5) (h3:jm d.2.2.2.2.2.2.2.2.2.2.2.2.2.2.2.2.2.2.2.2.2.2.1) (h6:d.2.2.2.2.2.2.1.length≤1048576) (h7:d.2.2.2.2.2.2.2.1.length+wl JK d.2.2.2.2.2.2.2.1≤1048576) (hg:d.2.2.2.2.2.2.2.2.2.2.2.2.2.2.2.2.2.2.2.2.2.2.2.1.length+wl bu d.2.2.2.2.2.2.2.2.2.2.2.2.2.2.2.2.2.2.2.2.2.2.2.1≤1048576) :
  mg (aE (cC d))≤2097157∧(I2 (cC d)).length+wl bu (I2 (cC d))≤1060000:=by
 obtain ⟨z1,z2⟩:=FE d.2.2.2.2.2.2.2.2.2.2.2.2.2.2.2.2.2.2.2.2.2.2.1 d.2.2.2.2.2.2.2.2.2.2.2.2.2.2.2.2.2.2.2.2.1 d.2.2.2.2.2.2.2.2.2.2.2.2.2.2.2.2.2.2.2.2.2.1 d.1 d.2.2.2.2.2.2.2.2.2.2.2.1 h3;obtain ⟨_,_,t3⟩:=sE d.2.2.2.2.2.2.2.2.2.2.2.2.2.2.2.2.2.2.2.2.1 d.2.2.2.2.2.2.2.2.2.2.2.2.2.2.2.2.2.2.2.2.2.1 d.2.2.2.2.2.2.2.2.2.2.2.2.2.2.2.2.2.2.2.2.2.2.1 d.1 (by omega) h3;have w0:∀l:dG,wl jR l=0:=fun l=>nb jR (fun _=>rfl) l
 constructor
 ·have e:mg (aE (cC d))=(List.length d.2.2.2.2.2.2.2.2.2.2.2.2.2.2.2.2.2.2.2.2.2.1+wl jR d.2.2.2.2.2.2.2.2.2.2.2.2.2.2.2.2.2.2.2.2.2.1)+0+(List.length d.2.2.2.2.2.2.1+wl jR d.2.2.2.2.2.2.1)+(List.length d.2.2.2.2.2.2.2.1+wl JK d.2.2.2.2.2.2.2.1)+0:=rfl;rw [e,w0,w0];omega
 ·have e:I2 (cC d)=yj d++[(3,d.2.2.2.2.2.2.2.2.2.2.2.2.2.2.2.2.2.2.2.2.1,d.2.2.2.2.2.2.2.2.2.2.2.2.2.2.2.2.2.2.2.2.2.1,0,0,0,ByteArray.empty,d.2.2.2.2.2.2.2.2.2.2.2.2.2.2.2.2.2.2.2.2.2.1,())]:=rfl;have e1:bu ((3,d.2.2.2.2.2.2.2.2.2.2.2.2.2.2.2.2.2.2.2.2.1,d.2.2.2.2.2.2.2.2.2.2.2.2.2.2.2.2.2.2.2.2.2.1,0,0,0,ByteArray.empty,d.2.2.2.2.2.2.2.2.2.2.2.2.2.2.2.2.2.2.2.2.2.1,()):wu)=(d.2.2.2.2.2.2.2.2.2.2.2.2.2.2.2.2.2.2.2.2.2.1.length+wl jR d.2.2.2.2.2.2.2.2.2.2.2.2.2.2.2.2.2.2.2.2.2.1)+0+(d.2.2.2.2.2.2.2.2.2.2.2.2.2.2.2.2.2.2.2.2.2.1.length+wl jR d.2.2.2.2.2.2.2.2.2.2.2.2.2.2.2.2.2.2.2.2.2.1):=rfl;have e2:bu ((2,d.2.2.2.1,d.2.2.2.2.1,0,0,0,ByteArray.empty,eZ d.2.2.2.2.2.2.2.2.2.2.2.2.2.2.2.2.2.2.2.2.2.2.1 d.2.2.2.2.2.2.2.2.2.2.2.2.2.2.2.2.2.2.2.2.1 d.2.2.2.2.2.2.2.2.2.2.2.2.2.2.2.2.2.2.2.2.2.1 d.1,()):wu)=(d.2.2.2.2.1.length+wl jR d.2.2.2.2.1)+0+((eZ d.2.2.2.2.2.2.2.2.2.2.2.2.2.2.2.2.2.2.2.2.2.2.1 d.2.2.2.2.2.2.2.2.2.2.2.2.2.2.2.2.2.2.2.2.1 d.2.2.2.2.2.2.2.2.2.2.2.2.2.2.2.2.2.2.2.2.2.1 d.1).length+wl jR (eZ d.2.2.2.2.2.2.2.2.2.2.2.2.2.2.2.2.2.2.2.2.2.2.1 d.2.2.2.2.2.2.2.2.2.2.2.2.2.2.2.2.2.2.2.2.1 d.2.2.2.2.2.2.2.2.2.2.2.2.2.2.2.2.2.2.2.2.2.1 d.1)):=rfl;have e3:(yj d).length+wl bu (yj d)≤1048576+8000:=by
   unfold yj
   cases decide (0<d.2.2.2.2.2.2.2.2.2.2.2.2.2.2.2.2.2.2.2.1)
   ·show d.2.2.2.2.2.2.2.2.2.2.2.2.2.2.2.2.2.2.2.2.2.2.2.1.length+wl bu d.2.2.2.2.2.2.2.2.2.2.2.2.2.2.2.2.2.2.2.2.2.2.2.1≤_;omega
   ·show (d.2.2.2.2.2.2.2.2.2.2.2.2.2.2.2.2.2.2.2.2.2.2.2.1++Bs d).length+wl bu (d.2.2.2.2.2.2.2.2.2.2.2.2.2.2.2.2.2.2.2.2.2.2.2.1++Bs d)≤_;unfold Bs;rw [HP,HP,Sd,List.length_append,List.length_append,oz,sq,L7,e2,w0,w0,List.length_singleton];have:=Nat.mul_le_mul z1 (show d.2.2.2.2.1.length+0≤5 by omega);omega
  rw [e,HP,List.length_append,sq,L7,e1,w0,List.length_singleton];omega
def eW (d:bY) (bs:List ea):bY:=(d.1,d.2.1,d.2.2.1,d.2.2.2.1,d.2.2.2.2.1,d.2.2.2.2.2.1,d.2.2.2.2.2.2.1,d.2.2.2.2.2.2.2.1,d.2.2.2.2.2.2.2.2.1,d.2.2.2.2.2.2.2.2.2.1,d.2.2.2.2.2.2.2.2.2.2.1,d.2.2.2.2.2.2.2.2.2.2.2.1,d.2.2.2.2.2.2.2.2.2.2.2.2.1,d.2.2.2.2.2.2.2.2.2.2.2.2.2.1,d.2.2.2.2.2.2.2.2.2.2.2.2.2.2.1,d.2.2.2.2.2.2.2.2.2.2.2.2.2.2.2.1,d.2.2.2.2.2.2.2.2.2.2.2.2.2.2.2.2.1,d.2.2.2.2.2.2.2.2.2.2.2.2.2.2.2.2.2.1,d.2.2.2.2.2.2.2.2.2.2.2.2.2.2.2.2.2.2.1,d.2.2.2.2.2.2.2.2.2.2.2.2.2.2.2.2.2.2.2.1,d.2.2.2.2.2.2.2.2.2.2.2.2.2.2.2.2.2.2.2.2.1,d.2.2.2.2.2.2.2.2.2.2.2.2.2.2.2.2.2.2.2.2.2.1,bs,d.2.2.2.2.2.2.2.2.2.2.2.2.2.2.2.2.2.2.2.2.2.2.2.1,())
noncomputable def fw (d:bY) (b:ea):bY:=bif lH d.2.2.2.2.2.2.2.2.2.2.2.2.2.2.2.2.2.2.2.2.1 d.2.2.2.2.2.2.2.2.2.2.2.2.2.2.2.2.2.2.2.2.2.1 (d.2.2.2.2.2.2.2.2.2.2.2.2.2.2.2.2.2.2.2.2.2.2.1++[b]) then cC (eW d (d.2.2.2.2.2.2.2.2.2.2.2.2.2.2.2.2.2.2.2.2.2.2.1++[b])) else eW d (d.2.2.2.2.2.2.2.2.2.2.2.2.2.2.2.2.2.2.2.2.2.2.1++[b])
noncomputable def Et (d:bY) (b:ea):Bool:=jU d&&(p7 b&&(!decide (d.2.2.2.2.2.2.2.2.2.2.2.2.2.2.2.2.2.2.2.2.1=0)&&(decide (b.2.1=d.2.2.2.2.2.2.2.2.2.2.2.2.2.2.2.2.2.2.2.2.1) && !(gR d.2.2.2.2.2.2.2.2.2.2.2.2.2.2.2.2.2.2.2.2.2.2.1 d.2.2.2.2.2.2.2.2.2.2.2.2.2.2.2.2.2.2.2.2.1 b.1).isSome)))
noncomputable def bD (d:bY) (b:ea):bY×Bool:=bif Et d b then (fw d b,true) else (d,false)
theorem I3 (o:Option ea):(tR o).2.2.2.2.1=o.isSome:=by cases o<;>rfl
theorem xc (d:bY) (b:ea) (h:ow d≤1048576) (hb:b.2.2.2.1.length≤1048576) (hd:jU d=true) (hn:¬d.2.2.2.2.2.2.2.2.2.2.2.2.2.2.2.2.2.2.2.2.1=0):ye d∧lU d.2.2.2.2.2.2.2.2.2.2.2.2.2.2.2.2.2.2.2.2.1 d.2.2.2.2.2.2.2.2.2.2.2.2.2.2.2.2.2.2.2.2.2.1∧(d.1,())∈d.2.2.2.2.2.2.2.2.2.2.2.2.2.2.2.2.2.2.2.2.2.1∧jm (d.2.2.2.2.2.2.2.2.2.2.2.2.2.2.2.2.2.2.2.2.2.2.1++[b])∧d.2.2.2.2.1.length≤5∧d.2.2.2.2.2.2.2.2.2.2.2.2.2.2.2.2.2.2.2.2.2.2.2.1.length+wl bu d.2.2.2.2.2.2.2.2.2.2.2.2.2.2.2.2.2.2.2.2.2.2.2.1≤1048576∧mg (aE d)≤5000:=by
 have q:=(m7 d h).2.2.1 hd;have hj:lU d.2.2.2.2.2.2.2.2.2.2.2.2.2.2.2.2.2.2.2.2.1 d.2.2.2.2.2.2.2.2.2.2.2.2.2.2.2.2.2.2.2.2.2.1∧(d.1,())∈d.2.2.2.2.2.2.2.2.2.2.2.2.2.2.2.2.2.2.2.2.2.1:=by
  rcases q.nS with g | g
  ·exact absurd g.1 hn
  ·exact ⟨g.1,g.2.1⟩
 have h0:=h;unfold ow at h0;have hm:d.2.2.2.2.1.length≤5∧mg (aE d)≤5000:=by
  rcases q.tS with g | g
  ·have g1:d.2.2.2.2.1=[]:=g.2.2.1;have g2:d.2.2.2.2.2.1=[]:=g.2.2.2.1;have g3:d.2.2.2.2.2.2.1=[]:=g.2.2.2.2.1;have g4:d.2.2.2.2.2.2.2.1=[]:=g.2.2.2.2.2.1;have g5:d.2.2.2.2.2.2.2.2.2.2.2.2.2.2.2.2.2.1=[]:=g.2.2.2.2.2.2.2.2.2.2.2.2.2.2.2;refine ⟨by rw [g1];exact Nat.zero_le _,?_⟩;show (List.length d.2.2.2.2.1+wl jR d.2.2.2.2.1)+(List.length d.2.2.2.2.2.1+wl dF d.2.2.2.2.2.1)+(List.length d.2.2.2.2.2.2.1+wl jR d.2.2.2.2.2.2.1)+(List.length d.2.2.2.2.2.2.2.1+wl JK d.2.2.2.2.2.2.2.1)+(List.length d.2.2.2.2.2.2.2.2.2.2.2.2.2.2.2.2.2.1+wl jR d.2.2.2.2.2.2.2.2.2.2.2.2.2.2.2.2.2.1)≤5000;rw [g1,g2,g3,g4,g5]
   decide
  ·exact ⟨g.1.ring.2.1.2,g.1.small⟩
 exact ⟨q,hj.1,hj.2,jm.more (by omega) hb,hm.1,by omega,hm.2⟩
theorem QU (d:bY) (b:ea) (h:ow d≤1048576) (hb:b.2.2.2.1.length≤1048576) (hd:jU d=true) (hn:¬d.2.2.2.2.2.2.2.2.2.2.2.2.2.2.2.2.2.2.2.2.1=0):cq (fw d b).1 (fw d b).2.1 (fw d b).2.2.1 (fw d b).2.2.2.1 (fw d b).2.2.2.2.1 (fw d b).2.2.2.2.2.1 (fw d b).2.2.2.2.2.2.1 (fw d b).2.2.2.2.2.2.2.1 (fw d b).2.2.2.2.2.2.2.2.1 (fw d b).2.2.2.2.2.2.2.2.2.1 (fw d b).2.2.2.2.2.2.2.2.2.2.1 (fw d b).2.2.2.2.2.2.2.2.2.2.2.1 (fw d b).2.2.2.2.2.2.2.2.2.2.2.2.1 (fw d b).2.2.2.2.2.2.2.2.2.2.2.2.2.1 (fw d b).2.2.2.2.2.2.2.2.2.2.2.2.2.2.1 (fw d b).2.2.2.2.2.2.2.2.2.2.2.2.2.2.2.1 (fw d b).2.2.2.2.2.2.2.2.2.2.2.2.2.2.2.2.1 (fw d b).2.2.2.2.2.2.2.2.2.2.2.2.2.2.2.2.2.1 (fw d b).2.2.2.2.2.2.2.2.2.2.2.2.2.2.2.2.2.2.1 (fw d b).2.2.2.2.2.2.2.2.2.2.2.2.2.2.2.2.2.2.2.1 (fw d b).2.2.2.2.2.2.2.2.2.2.2.2.2.2.2.2.2.2.2.2.1 (fw d b).2.2.2.2.2.2.2.2.2.2.2.2.2.2.2.2.2.2.2.2.2.1 (fw d b).2.2.2.2.2.2.2.2.2.2.2.2.2.2.2.2.2.2.2.2.2.2.1 (fw d b).2.2.2.2.2.2.2.2.2.2.2.2.2.2.2.2.2.2.2.2.2.2.2.1=some (fw d b)∧ow (fw d b)≤2200000+(b.2.2.2.1.length+wl dF b.2.2.2.1):=by
 obtain ⟨q,hr,hm,hB,h4,hg,hw⟩:=xc d b h hb hd hn;have h0:=h;unfold ow at h0;unfold fw
 cases lH d.2.2.2.2.2.2.2.2.2.2.2.2.2.2.2.2.2.2.2.2.1 d.2.2.2.2.2.2.2.2.2.2.2.2.2.2.2.2.2.2.2.2.2.1 (d.2.2.2.2.2.2.2.2.2.2.2.2.2.2.2.2.2.2.2.2.2.2.1++[b])
 ·have e1:aE (eW d (d.2.2.2.2.2.2.2.2.2.2.2.2.2.2.2.2.2.2.2.2.2.2.1++[b]))=aE d:=rfl;refine ⟨OT (eW d (d.2.2.2.2.2.2.2.2.2.2.2.2.2.2.2.2.2.2.2.2.2.2.1++[b])) (by rw [e1];omega) (by show d.2.2.2.2.2.2.2.2.2.2.2.2.2.2.2.2.2.2.2.2.2.1.length≤_;omega) hB (by show d.2.2.2.2.2.2.2.2.2.2.2.2.2.2.2.2.2.2.2.2.2.2.2.1.length+wl bu d.2.2.2.2.2.2.2.2.2.2.2.2.2.2.2.2.2.2.2.2.2.2.2.1≤_;omega),?_⟩;have e:ow (eW d (d.2.2.2.2.2.2.2.2.2.2.2.2.2.2.2.2.2.2.2.2.2.2.1++[b]))=(List.length d.2.2.2.2.1+wl jR d.2.2.2.2.1)+(List.length d.2.2.2.2.2.1+wl dF d.2.2.2.2.2.1)+(List.length d.2.2.2.2.2.2.1+wl jR d.2.2.2.2.2.2.1)+(List.length d.2.2.2.2.2.2.2.1+wl JK d.2.2.2.2.2.2.2.1)+(List.length d.2.2.2.2.2.2.2.2.2.2.2.2.2.2.2.2.2.1+wl jR d.2.2.2.2.2.2.2.2.2.2.2.2.2.2.2.2.2.1)+(List.length d.2.2.2.2.2.2.2.2.2.2.2.2.2.2.2.2.2.2.2.2.2.1+wl jR d.2.2.2.2.2.2.2.2.2.2.2.2.2.2.2.2.2.2.2.2.2.1)+(List.length (d.2.2.2.2.2.2.2.2.2.2.2.2.2.2.2.2.2.2.2.2.2.2.1++[b])+wl ed (d.2.2.2.2.2.2.2.2.2.2.2.2.2.2.2.2.2.2.2.2.2.2.1++[b]))+(List.length d.2.2.2.2.2.2.2.2.2.2.2.2.2.2.2.2.2.2.2.2.2.2.2.1+wl bu d.2.2.2.2.2.2.2.2.2.2.2.2.2.2.2.2.2.2.2.2.2.2.2.1):=rfl;have e2:ed b=b.2.2.2.1.length+wl dF b.2.2.2.1:=rfl;show ow (eW d (d.2.2.2.2.2.2.2.2.2.2.2.2.2.2.2.2.2.2.2.2.2.2.1++[b]))≤_;rw [e,HP,List.length_append,sq,L7,e2,List.length_singleton];omega
 ·have h21:=hr.2.1.2;obtain ⟨s1,s2⟩:=MR (eW d (d.2.2.2.2.2.2.2.2.2.2.2.2.2.2.2.2.2.2.2.2.2.2.1++[b])) h21 h4 hB (by show d.2.2.2.2.2.2.1.length≤_;omega) (by show d.2.2.2.2.2.2.2.1.length+wl JK d.2.2.2.2.2.2.2.1≤_;omega) hg;have w0:∀l:dG,wl jR l=0:=fun l=>nb jR (fun _=>rfl) l
  have hmw:mg (aE (cC (eW d (d.2.2.2.2.2.2.2.2.2.2.2.2.2.2.2.2.2.2.2.2.2.2.1++[b]))))≤1048576:=by
   have e:mg (aE (cC (eW d (d.2.2.2.2.2.2.2.2.2.2.2.2.2.2.2.2.2.2.2.2.2.2.1++[b]))))=(List.length d.2.2.2.2.2.2.2.2.2.2.2.2.2.2.2.2.2.2.2.2.2.1+wl jR d.2.2.2.2.2.2.2.2.2.2.2.2.2.2.2.2.2.2.2.2.2.1)+0+(List.length d.2.2.2.2.2.2.1+wl jR d.2.2.2.2.2.2.1)+(List.length d.2.2.2.2.2.2.2.1+wl JK d.2.2.2.2.2.2.2.1)+0:=rfl;have e3:mg (aE d)=(List.length d.2.2.2.2.1+wl jR d.2.2.2.2.1)+(List.length d.2.2.2.2.2.1+wl dF d.2.2.2.2.2.1)+(List.length d.2.2.2.2.2.2.1+wl jR d.2.2.2.2.2.2.1)+(List.length d.2.2.2.2.2.2.2.1+wl JK d.2.2.2.2.2.2.2.1)+(List.length d.2.2.2.2.2.2.2.2.2.2.2.2.2.2.2.2.2.1+wl jR d.2.2.2.2.2.2.2.2.2.2.2.2.2.2.2.2.2.1):=rfl;have e4:=w0 d.2.2.2.2.2.2.2.2.2.2.2.2.2.2.2.2.2.2.2.2.2.1;omega
  have e5:ow (cC (eW d (d.2.2.2.2.2.2.2.2.2.2.2.2.2.2.2.2.2.2.2.2.2.2.1++[b])))=mg (aE (cC (eW d (d.2.2.2.2.2.2.2.2.2.2.2.2.2.2.2.2.2.2.2.2.2.2.1++[b]))))+0+0+((I2 (cC (eW d (d.2.2.2.2.2.2.2.2.2.2.2.2.2.2.2.2.2.2.2.2.2.2.1++[b])))).length+wl bu (I2 (cC (eW d (d.2.2.2.2.2.2.2.2.2.2.2.2.2.2.2.2.2.2.2.2.2.2.1++[b]))))):=rfl;refine ⟨OT _ hmw (Nat.zero_le _) ⟨Nat.zero_le _,fun x hx=>by cases hx⟩ (by show (I2 (cC (eW d (d.2.2.2.2.2.2.2.2.2.2.2.2.2.2.2.2.2.2.2.2.2.2.1++[b])))).length+wl bu (I2 (cC (eW d (d.2.2.2.2.2.2.2.2.2.2.2.2.2.2.2.2.2.2.2.2.2.2.1++[b]))))≤_;omega),?_⟩;show ow (cC (eW d (d.2.2.2.2.2.2.2.2.2.2.2.2.2.2.2.2.2.2.2.2.2.2.1++[b])))≤_;rw [e5];omega
theorem MS (d:bY) (b:ea) (h:ow d≤1048576) (hb:b.2.2.2.1.length≤1048576):my d.1 d.2.1 d.2.2.1 d.2.2.2.1 d.2.2.2.2.1 d.2.2.2.2.2.1 d.2.2.2.2.2.2.1 d.2.2.2.2.2.2.2.1 d.2.2.2.2.2.2.2.2.1 d.2.2.2.2.2.2.2.2.2.1 d.2.2.2.2.2.2.2.2.2.2.1 d.2.2.2.2.2.2.2.2.2.2.2.1 d.2.2.2.2.2.2.2.2.2.2.2.2.1 d.2.2.2.2.2.2.2.2.2.2.2.2.2.1 d.2.2.2.2.2.2.2.2.2.2.2.2.2.2.1 d.2.2.2.2.2.2.2.2.2.2.2.2.2.2.2.1 d.2.2.2.2.2.2.2.2.2.2.2.2.2.2.2.2.1 d.2.2.2.2.2.2.2.2.2.2.2.2.2.2.2.2.2.1 d.2.2.2.2.2.2.2.2.2.2.2.2.2.2.2.2.2.2.1 d.2.2.2.2.2.2.2.2.2.2.2.2.2.2.2.2.2.2.2.1 d.2.2.2.2.2.2.2.2.2.2.2.2.2.2.2.2.2.2.2.2.1 d.2.2.2.2.2.2.2.2.2.2.2.2.2.2.2.2.2.2.2.2.2.1 d.2.2.2.2.2.2.2.2.2.2.2.2.2.2.2.2.2.2.2.2.2.2.1 d.2.2.2.2.2.2.2.2.2.2.2.2.2.2.2.2.2.2.2.2.2.2.2.1 b.1 b.2.1 b.2.2.1 b.2.2.2.1=some ((bD d b).1.1,(bD d b).1.2.1,(bD d b).1.2.2.1,(bD d b).1.2.2.2.1,(bD d b).1.2.2.2.2.1,(bD d b).1.2.2.2.2.2.1,(bD d b).1.2.2.2.2.2.2.1,(bD d b).1.2.2.2.2.2.2.2.1,(bD d b).1.2.2.2.2.2.2.2.2.1,(bD d b).1.2.2.2.2.2.2.2.2.2.1,(bD d b).1.2.2.2.2.2.2.2.2.2.2.1,(bD d b).1.2.2.2.2.2.2.2.2.2.2.2.1,(bD d b).1.2.2.2.2.2.2.2.2.2.2.2.2.1,(bD d b).1.2.2.2.2.2.2.2.2.2.2.2.2.2.1,(bD d b).1.2.2.2.2.2.2.2.2.2.2.2.2.2.2.1,(bD d b).1.2.2.2.2.2.2.2.2.2.2.2.2.2.2.2.1,(bD d b).1.2.2.2.2.2.2.2.2.2.2.2.2.2.2.2.2.1,(bD d b).1.2.2.2.2.2.2.2.2.2.2.2.2.2.2.2.2.2.1,(bD d b).1.2.2.2.2.2.2.2.2.2.2.2.2.2.2.2.2.2.2.1,(bD d b).1.2.2.2.2.2.2.2.2.2.2.2.2.2.2.2.2.2.2.2.1,(bD d b).1.2.2.2.2.2.2.2.2.2.2.2.2.2.2.2.2.2.2.2.2.1,(bD d b).1.2.2.2.2.2.2.2.2.2.2.2.2.2.2.2.2.2.2.2.2.2.1,(bD d b).1.2.2.2.2.2.2.2.2.2.2.2.2.2.2.2.2.2.2.2.2.2.2.1,(bD d b).1.2.2.2.2.2.2.2.2.2.2.2.2.2.2.2.2.2.2.2.2.2.2.2.1,(bD d b).2,())∧Aa d.1 d.2.1 d.2.2.1 d.2.2.2.1 d.2.2.2.2.1 d.2.2.2.2.2.1 d.2.2.2.2.2.2.1 d.2.2.2.2.2.2.2.1 d.2.2.2.2.2.2.2.2.1 d.2.2.2.2.2.2.2.2.2.1 d.2.2.2.2.2.2.2.2.2.2.1 d.2.2.2.2.2.2.2.2.2.2.2.1 d.2.2.2.2.2.2.2.2.2.2.2.2.1 d.2.2.2.2.2.2.2.2.2.2.2.2.2.1 d.2.2.2.2.2.2.2.2.2.2.2.2.2.2.1 d.2.2.2.2.2.2.2.2.2.2.2.2.2.2.2.1 d.2.2.2.2.2.2.2.2.2.2.2.2.2.2.2.2.1 d.2.2.2.2.2.2.2.2.2.2.2.2.2.2.2.2.2.1 d.2.2.2.2.2.2.2.2.2.2.2.2.2.2.2.2.2.2.1 d.2.2.2.2.2.2.2.2.2.2.2.2.2.2.2.2.2.2.2.1 d.2.2.2.2.2.2.2.2.2.2.2.2.2.2.2.2.2.2.2.2.1 d.2.2.2.2.2.2.2.2.2.2.2.2.2.2.2.2.2.2.2.2.2.1 d.2.2.2.2.2.2.2.2.2.2.2.2.2.2.2.2.2.2.2.2.2.2.1 d.2.2.2.2.2.2.2.2.2.2.2.2.2.2.2.2.2.2.2.2.2.2.2.1 b.1 b.2.1 b.2.2.1 b.2.2.2.1=some ((bD d b).1.1,(bD d b).1.2.1,(bD d b).1.2.2.1,(bD d b).1.2.2.2.1,(bD d b).1.2.2.2.2.1,(bD d b).1.2.2.2.2.2.1,(bD d b).1.2.2.2.2.2.2.1,(bD d b).1.2.2.2.2.2.2.2.1,(bD d b).1.2.2.2.2.2.2.2.2.1,(bD d b).1.2.2.2.2.2.2.2.2.2.1,(bD d b).1.2.2.2.2.2.2.2.2.2.2.1,(bD d b).1.2.2.2.2.2.2.2.2.2.2.2.1,(bD d b).1.2.2.2.2.2.2.2.2.2.2.2.2.1,(bD d b).1.2.2.2.2.2.2.2.2.2.2.2.2.2.1,(bD d b).1.2.2.2.2.2.2.2.2.2.2.2.2.2.2.1,(bD d b).1.2.2.2.2.2.2.2.2.2.2.2.2.2.2.2.1,(bD d b).1.2.2.2.2.2.2.2.2.2.2.2.2.2.2.2.2.1,(bD d b).1.2.2.2.2.2.2.2.2.2.2.2.2.2.2.2.2.2.1,(bD d b).1.2.2.2.2.2.2.2.2.2.2.2.2.2.2.2.2.2.2.1,(bD d b).1.2.2.2.2.2.2.2.2.2.2.2.2.2.2.2.2.2.2.2.1,(bD d b).1.2.2.2.2.2.2.2.2.2.2.2.2.2.2.2.2.2.2.2.2.1,(bD d b).1.2.2.2.2.2.2.2.2.2.2.2.2.2.2.2.2.2.2.2.2.2.1,(bD d b).1.2.2.2.2.2.2.2.2.2.2.2.2.2.2.2.2.2.2.2.2.2.2.1,(bD d b).1.2.2.2.2.2.2.2.2.2.2.2.2.2.2.2.2.2.2.2.2.2.2.2.1,(bD d b).2,()):=by
 obtain ⟨k1,k2,k3⟩:=m7 d h;obtain ⟨p1,p2⟩:=uQ d h;obtain ⟨b1,b2⟩:=se b hb;obtain ⟨n1,_⟩:=u9 d.2.2.2.2.2.2.2.2.2.2.2.2.2.2.2.2.2.2.2.2.1 d.2.2.2.2.2.2.2.2.2.2.2.2.2.2.2.2.2.2.2.2.2.1;have h0:=h;unfold ow at h0;have hS:jm d.2.2.2.2.2.2.2.2.2.2.2.2.2.2.2.2.2.2.2.2.2.2.1:=jm.of (by omega);have f1:=sf d.2.2.2.2.2.2.2.2.2.2.2.2.2.2.2.2.2.2.2.2.1 d.2.2.2.2.2.2.2.2.2.2.2.2.2.2.2.2.2.2.2.2.2.1 d.2.2.2.2.2.2.2.2.2.2.2.2.2.2.2.2.2.2.2.2.2.2.1 b.1 hS;have f2:=wq d.2.2.2.2.2.2.2.2.2.2.2.2.2.2.2.2.2.2.2.2.1 d.2.2.2.2.2.2.2.2.2.2.2.2.2.2.2.2.2.2.2.2.2.1 d.2.2.2.2.2.2.2.2.2.2.2.2.2.2.2.2.2.2.2.2.2.2.1 b.1 hS;have c1:=(jn b hb).1;have c2:=(jn b hb).2;have QV:Nat.ble ((d.2.2.2.2.2.2.2.2.2.2.2.2.2.2.2.2.2.2.2.2.2.2.1.length+1)*48) lim=true:=aS (by unfold lim;omega);have a12:=Ek d.2.2.2.2.2.2.2.2.2.2.2.2.2.2.2.2.2.2.2.2.1 d.2.2.2.2.2.2.2.2.2.2.2.2.2.2.2.2.2.2.2.2.2.1 (d.2.2.2.2.2.2.2.2.2.2.2.2.2.2.2.2.2.2.2.2.2.2.1++[b]) (by omega) (jm.more (by omega) hb);have a1:kE d.2.2.2.2.2.2.2.2.2.2.2.2.2.2.2.2.2.2.2.2.1 d.2.2.2.2.2.2.2.2.2.2.2.2.2.2.2.2.2.2.2.2.2.1 (d.2.2.2.2.2.2.2.2.2.2.2.2.2.2.2.2.2.2.2.2.2.2.1++[(b.1,b.2.1,b.2.2.1,b.2.2.2.1,())])=some (lH d.2.2.2.2.2.2.2.2.2.2.2.2.2.2.2.2.2.2.2.2.1 d.2.2.2.2.2.2.2.2.2.2.2.2.2.2.2.2.2.2.2.2.2.1 (d.2.2.2.2.2.2.2.2.2.2.2.2.2.2.2.2.2.2.2.2.2.2.1++[b]),()):=a12.1;have a2:uN d.2.2.2.2.2.2.2.2.2.2.2.2.2.2.2.2.2.2.2.2.1 d.2.2.2.2.2.2.2.2.2.2.2.2.2.2.2.2.2.2.2.2.2.1 (d.2.2.2.2.2.2.2.2.2.2.2.2.2.2.2.2.2.2.2.2.2.2.1++[(b.1,b.2.1,b.2.2.1,b.2.2.2.1,())])=some (lH d.2.2.2.2.2.2.2.2.2.2.2.2.2.2.2.2.2.2.2.2.1 d.2.2.2.2.2.2.2.2.2.2.2.2.2.2.2.2.2.2.2.2.2.1 (d.2.2.2.2.2.2.2.2.2.2.2.2.2.2.2.2.2.2.2.2.2.2.1++[b]),()):=a12.2;have hnr:jU d=true→(decide (d.2.2.2.2.2.2.2.2.2.2.2.2.2.2.2.2.2.2.2.2.1=0)&&decide (((List.length d.2.2.2.2.2.2.2.2.2.2.2.2.2.2.2.2.2.2.2.2.2.1:Nat):Int)=0))=decide (d.2.2.2.2.2.2.2.2.2.2.2.2.2.2.2.2.2.2.2.2.1=0):=fun hd=>by
  rcases (k3.1 hd).nS with g | g
  ·rw [g.1,g.2.1];rfl
  ·have:=g.1.1.1;rw [Uf (show ¬d.2.2.2.2.2.2.2.2.2.2.2.2.2.2.2.2.2.2.2.2.1=0 by omega)];rfl
 unfold bD Et
 constructor
 ·unfold my;delta ba az aT bA aA;simp only [p1,k1,b1,n1,f1,c1,Option.bind_some,I3]
  cases hd:jU d
  ·rfl
  cases hB:p7 b
  ·rfl
  rw [hnr hd]
  by_cases hn:d.2.2.2.2.2.2.2.2.2.2.2.2.2.2.2.2.2.2.2.2.1=0
  ·rw [X6 hn];rfl
  rw [Uf hn]
  cases decide (b.2.1=d.2.2.2.2.2.2.2.2.2.2.2.2.2.2.2.2.2.2.2.2.1)
  ·rfl
  cases (gR d.2.2.2.2.2.2.2.2.2.2.2.2.2.2.2.2.2.2.2.2.2.2.1 d.2.2.2.2.2.2.2.2.2.2.2.2.2.2.2.2.2.2.2.2.1 b.1).isSome
  case true=>rfl
  obtain ⟨q,hr,hm,hBS,h4,hg,_⟩:=xc d b h hb hd hn;have i1:=(uT (eW d (d.2.2.2.2.2.2.2.2.2.2.2.2.2.2.2.2.2.2.2.2.2.2.1++[b])) hr hm hBS (by show d.2.2.2.2.1.length≤_;omega) (by show d.2.2.2.2.2.2.2.2.2.2.2.2.2.2.2.2.2.2.2.2.2.2.2.1.length≤_;omega)).1;have i1:eL d.1 d.2.1 d.2.2.1 d.2.2.2.1 d.2.2.2.2.1 d.2.2.2.2.2.1 d.2.2.2.2.2.2.1 d.2.2.2.2.2.2.2.1 d.2.2.2.2.2.2.2.2.1 d.2.2.2.2.2.2.2.2.2.1 d.2.2.2.2.2.2.2.2.2.2.1 d.2.2.2.2.2.2.2.2.2.2.2.1 d.2.2.2.2.2.2.2.2.2.2.2.2.1 d.2.2.2.2.2.2.2.2.2.2.2.2.2.1 d.2.2.2.2.2.2.2.2.2.2.2.2.2.2.1 d.2.2.2.2.2.2.2.2.2.2.2.2.2.2.2.1 d.2.2.2.2.2.2.2.2.2.2.2.2.2.2.2.2.1 d.2.2.2.2.2.2.2.2.2.2.2.2.2.2.2.2.2.1 d.2.2.2.2.2.2.2.2.2.2.2.2.2.2.2.2.2.2.1 d.2.2.2.2.2.2.2.2.2.2.2.2.2.2.2.2.2.2.2.1 d.2.2.2.2.2.2.2.2.2.2.2.2.2.2.2.2.2.2.2.2.1 d.2.2.2.2.2.2.2.2.2.2.2.2.2.2.2.2.2.2.2.2.2.1 (d.2.2.2.2.2.2.2.2.2.2.2.2.2.2.2.2.2.2.2.2.2.2.1++[(b.1,b.2.1,b.2.2.1,b.2.2.2.1,())]) d.2.2.2.2.2.2.2.2.2.2.2.2.2.2.2.2.2.2.2.2.2.2.2.1=some (cC (eW d (d.2.2.2.2.2.2.2.2.2.2.2.2.2.2.2.2.2.2.2.2.2.2.1++[b]))):=i1;have ct:=(QU d b h hb hd hn).1;unfold fw at ct ⊢;simp only [Bool.not_true,Bool.not_false,cond_false,cond_true,Bool.and_self,QV,a1,Option.bind_some]
  revert ct
  cases lH d.2.2.2.2.2.2.2.2.2.2.2.2.2.2.2.2.2.2.2.2.1 d.2.2.2.2.2.2.2.2.2.2.2.2.2.2.2.2.2.2.2.2.2.1 (d.2.2.2.2.2.2.2.2.2.2.2.2.2.2.2.2.2.2.2.2.2.2.1++[b])<;>intro ct
  ·have ct:cq d.1 d.2.1 d.2.2.1 d.2.2.2.1 d.2.2.2.2.1 d.2.2.2.2.2.1 d.2.2.2.2.2.2.1 d.2.2.2.2.2.2.2.1 d.2.2.2.2.2.2.2.2.1 d.2.2.2.2.2.2.2.2.2.1 d.2.2.2.2.2.2.2.2.2.2.1 d.2.2.2.2.2.2.2.2.2.2.2.1 d.2.2.2.2.2.2.2.2.2.2.2.2.1 d.2.2.2.2.2.2.2.2.2.2.2.2.2.1 d.2.2.2.2.2.2.2.2.2.2.2.2.2.2.1 d.2.2.2.2.2.2.2.2.2.2.2.2.2.2.2.1 d.2.2.2.2.2.2.2.2.2.2.2.2.2.2.2.2.1 d.2.2.2.2.2.2.2.2.2.2.2.2.2.2.2.2.2.1 d.2.2.2.2.2.2.2.2.2.2.2.2.2.2.2.2.2.2.1 d.2.2.2.2.2.2.2.2.2.2.2.2.2.2.2.2.2.2.2.1 d.2.2.2.2.2.2.2.2.2.2.2.2.2.2.2.2.2.2.2.2.1 d.2.2.2.2.2.2.2.2.2.2.2.2.2.2.2.2.2.2.2.2.2.1 (d.2.2.2.2.2.2.2.2.2.2.2.2.2.2.2.2.2.2.2.2.2.2.1++[(b.1,b.2.1,b.2.2.1,b.2.2.2.1,())]) d.2.2.2.2.2.2.2.2.2.2.2.2.2.2.2.2.2.2.2.2.2.2.2.1=some (eW d (d.2.2.2.2.2.2.2.2.2.2.2.2.2.2.2.2.2.2.2.2.2.2.1++[b])):=ct;simp only [cond_false,ct,Option.bind_some]
  ·simp only [cond_true] at ct;simp only [cond_true,i1,Option.bind_some];rw [ct];rfl
 ·unfold Aa;delta ba aT cS bA aA bt;simp only [p2,k2,b2,f2,c2,Option.bind_some,I3]
  by_cases hn:d.2.2.2.2.2.2.2.2.2.2.2.2.2.2.2.2.2.2.2.2.1=0
  ·rw [X6 hn]
   cases jU d<;>cases p7 b<;>rfl
  rw [Uf hn]
  cases Cm:decide (b.2.1=d.2.2.2.2.2.2.2.2.2.2.2.2.2.2.2.2.2.2.2.2.1)
  ·cases jU d<;>cases p7 b<;>rfl
  cases hB:p7 b
  ·cases jU d<;>rfl
  cases hd:jU d
  ·rfl
  cases (gR d.2.2.2.2.2.2.2.2.2.2.2.2.2.2.2.2.2.2.2.2.2.2.1 d.2.2.2.2.2.2.2.2.2.2.2.2.2.2.2.2.2.2.2.2.1 b.1).isSome
  case true=>rfl
  obtain ⟨q,hr,hm,hBS,h4,hg,_⟩:=xc d b h hb hd hn;have i1:=(uT (eW d (d.2.2.2.2.2.2.2.2.2.2.2.2.2.2.2.2.2.2.2.2.2.2.1++[b])) hr hm hBS (by show d.2.2.2.2.1.length≤_;omega) (by show d.2.2.2.2.2.2.2.2.2.2.2.2.2.2.2.2.2.2.2.2.2.2.2.1.length≤_;omega)).2;have i1:db d.1 d.2.1 d.2.2.1 d.2.2.2.1 d.2.2.2.2.1 d.2.2.2.2.2.1 d.2.2.2.2.2.2.1 d.2.2.2.2.2.2.2.1 d.2.2.2.2.2.2.2.2.1 d.2.2.2.2.2.2.2.2.2.1 d.2.2.2.2.2.2.2.2.2.2.1 d.2.2.2.2.2.2.2.2.2.2.2.1 d.2.2.2.2.2.2.2.2.2.2.2.2.1 d.2.2.2.2.2.2.2.2.2.2.2.2.2.1 d.2.2.2.2.2.2.2.2.2.2.2.2.2.2.1 d.2.2.2.2.2.2.2.2.2.2.2.2.2.2.2.1 d.2.2.2.2.2.2.2.2.2.2.2.2.2.2.2.2.1 d.2.2.2.2.2.2.2.2.2.2.2.2.2.2.2.2.2.1 d.2.2.2.2.2.2.2.2.2.2.2.2.2.2.2.2.2.2.1 d.2.2.2.2.2.2.2.2.2.2.2.2.2.2.2.2.2.2.2.1 d.2.2.2.2.2.2.2.2.2.2.2.2.2.2.2.2.2.2.2.2.1 d.2.2.2.2.2.2.2.2.2.2.2.2.2.2.2.2.2.2.2.2.2.1 (d.2.2.2.2.2.2.2.2.2.2.2.2.2.2.2.2.2.2.2.2.2.2.1++[(b.1,b.2.1,b.2.2.1,b.2.2.2.1,())]) d.2.2.2.2.2.2.2.2.2.2.2.2.2.2.2.2.2.2.2.2.2.2.2.1=some (cC (eW d (d.2.2.2.2.2.2.2.2.2.2.2.2.2.2.2.2.2.2.2.2.2.2.1++[b]))):=i1;unfold fw;simp only [Bool.not_true,Bool.not_false,cond_false,cond_true,Bool.and_self,QV,a2,Option.bind_some]
  cases lH d.2.2.2.2.2.2.2.2.2.2.2.2.2.2.2.2.2.2.2.2.1 d.2.2.2.2.2.2.2.2.2.2.2.2.2.2.2.2.2.2.2.2.2.1 (d.2.2.2.2.2.2.2.2.2.2.2.2.2.2.2.2.2.2.2.2.2.2.1++[b])
  ·rfl
  ·simp only [cond_true,i1,Option.bind_some]
end Go.TM
set_option linter.unusedSimpArgs false
set_option linter.unusedVariables false
namespace Go.TM
open Go
theorem Eu (d:bY) (t:kJ) (m:iG) (said:aU) (nx:kJ) (b:Bool) (r:bY) (p1:cq d.1 d.2.1 d.2.2.1 d.2.2.2.1 d.2.2.2.2.1 d.2.2.2.2.2.1 d.2.2.2.2.2.2.1 d.2.2.2.2.2.2.2.1 d.2.2.2.2.2.2.2.2.1 d.2.2.2.2.2.2.2.2.2.1 d.2.2.2.2.2.2.2.2.2.2.1 d.2.2.2.2.2.2.2.2.2.2.2.1 d.2.2.2.2.2.2.2.2.2.2.2.2.1 d.2.2.2.2.2.2.2.2.2.2.2.2.2.1 d.2.2.2.2.2.2.2.2.2.2.2.2.2.2.1 d.2.2.2.2.2.2.2.2.2.2.2.2.2.2.2.1 d.2.2.2.2.2.2.2.2.2.2.2.2.2.2.2.2.1 d.2.2.2.2.2.2.2.2.2.2.2.2.2.2.2.2.2.1 d.2.2.2.2.2.2.2.2.2.2.2.2.2.2.2.2.2.2.1 d.2.2.2.2.2.2.2.2.2.2.2.2.2.2.2.2.2.2.2.1 d.2.2.2.2.2.2.2.2.2.2.2.2.2.2.2.2.2.2.2.2.1 d.2.2.2.2.2.2.2.2.2.2.2.2.2.2.2.2.2.2.2.2.2.1 d.2.2.2.2.2.2.2.2.2.2.2.2.2.2.2.2.2.2.2.2.2.2.1 d.2.2.2.2.2.2.2.2.2.2.2.2.2.2.2.2.2.2.2.2.2.2.2.1=some d) (hi:fi d.1 d.2.1 d.2.2.1 d.2.2.2.1 d.2.2.2.2.1 d.2.2.2.2.2.1 d.2.2.2.2.2.2.1 d.2.2.2.2.2.2.2.1 d.2.2.2.2.2.2.2.2.1 d.2.2.2.2.2.2.2.2.2.1 d.2.2.2.2.2.2.2.2.2.2.1 d.2.2.2.2.2.2.2.2.2.2.2.1 d.2.2.2.2.2.2.2.2.2.2.2.2.1 d.2.2.2.2.2.2.2.2.2.2.2.2.2.1 d.2.2.2.2.2.2.2.2.2.2.2.2.2.2.1 d.2.2.2.2.2.2.2.2.2.2.2.2.2.2.2.1 d.2.2.2.2.2.2.2.2.2.2.2.2.2.2.2.2.1 d.2.2.2.2.2.2.2.2.2.2.2.2.2.2.2.2.2.1 d.2.2.2.2.2.2.2.2.2.2.2.2.2.2.2.2.2.2.1 d.2.2.2.2.2.2.2.2.2.2.2.2.2.2.2.2.2.2.2.1 d.2.2.2.2.2.2.2.2.2.2.2.2.2.2.2.2.2.2.2.2.1 d.2.2.2.2.2.2.2.2.2.2.2.2.2.2.2.2.2.2.2.2.2.1 d.2.2.2.2.2.2.2.2.2.2.2.2.2.2.2.2.2.2.2.2.2.2.1 d.2.2.2.2.2.2.2.2.2.2.2.2.2.2.2.2.2.2.2.2.2.2.2.1=some (fR d,())) (c1:lu d.2.2.1 d.2.2.2.1 d.2.2.2.2.1 d.2.2.2.2.2.1 d.2.2.2.2.2.2.1 d.2.2.2.2.2.2.2.1 d.2.2.2.2.2.2.2.2.1 d.2.2.2.2.2.2.2.2.2.1 d.2.2.2.2.2.2.2.2.2.2.1 d.2.2.2.2.2.2.2.2.2.2.2.1 d.2.2.2.2.2.2.2.2.2.2.2.2.1 d.2.2.2.2.2.2.2.2.2.2.2.2.2.1 d.2.2.2.2.2.2.2.2.2.2.2.2.2.2.1 d.2.2.2.2.2.2.2.2.2.2.2.2.2.2.2.1 d.2.2.2.2.2.2.2.2.2.2.2.2.2.2.2.2.1 d.2.2.2.2.2.2.2.2.2.2.2.2.2.2.2.2.2.1 t.1 t.2.1 t.2.2.1 t.2.2.2.1 t.2.2.2.2.1 t.2.2.2.2.2.1=some (m.1,m.2.1,m.2.2.1,m.2.2.2.1,m.2.2.2.2.1,m.2.2.2.2.2.1,m.2.2.2.2.2.2.1,m.2.2.2.2.2.2.2.1,m.2.2.2.2.2.2.2.2.1,m.2.2.2.2.2.2.2.2.2.1,m.2.2.2.2.2.2.2.2.2.2.1,m.2.2.2.2.2.2.2.2.2.2.2.1,m.2.2.2.2.2.2.2.2.2.2.2.2.1,m.2.2.2.2.2.2.2.2.2.2.2.2.2.1,m.2.2.2.2.2.2.2.2.2.2.2.2.2.2.1,m.2.2.2.2.2.2.2.2.2.2.2.2.2.2.2.1,said,nx.1,nx.2.1,nx.2.2.1,nx.2.2.2.1,nx.2.2.2.2.1,nx.2.2.2.2.2.1,b,()))
  (e1:b=true→kD d.1 d.2.1 m.1 m.2.1 m.2.2.1 m.2.2.2.1 m.2.2.2.2.1 m.2.2.2.2.2.1 m.2.2.2.2.2.2.1 m.2.2.2.2.2.2.2.1 m.2.2.2.2.2.2.2.2.1 m.2.2.2.2.2.2.2.2.2.1 m.2.2.2.2.2.2.2.2.2.2.1 m.2.2.2.2.2.2.2.2.2.2.2.1 m.2.2.2.2.2.2.2.2.2.2.2.2.1 m.2.2.2.2.2.2.2.2.2.2.2.2.2.1 m.2.2.2.2.2.2.2.2.2.2.2.2.2.2.1 m.2.2.2.2.2.2.2.2.2.2.2.2.2.2.2.1 d.2.2.2.2.2.2.2.2.2.2.2.2.2.2.2.2.2.2.1 d.2.2.2.2.2.2.2.2.2.2.2.2.2.2.2.2.2.2.2.1 d.2.2.2.2.2.2.2.2.2.2.2.2.2.2.2.2.2.2.2.2.1 d.2.2.2.2.2.2.2.2.2.2.2.2.2.2.2.2.2.2.2.2.2.1 d.2.2.2.2.2.2.2.2.2.2.2.2.2.2.2.2.2.2.2.2.2.2.1 d.2.2.2.2.2.2.2.2.2.2.2.2.2.2.2.2.2.2.2.2.2.2.2.1=some r):gv d.1 d.2.1 d.2.2.1 d.2.2.2.1 d.2.2.2.2.1 d.2.2.2.2.2.1 d.2.2.2.2.2.2.1 d.2.2.2.2.2.2.2.1 d.2.2.2.2.2.2.2.2.1 d.2.2.2.2.2.2.2.2.2.1 d.2.2.2.2.2.2.2.2.2.2.1 d.2.2.2.2.2.2.2.2.2.2.2.1 d.2.2.2.2.2.2.2.2.2.2.2.2.1 d.2.2.2.2.2.2.2.2.2.2.2.2.2.1 d.2.2.2.2.2.2.2.2.2.2.2.2.2.2.1 d.2.2.2.2.2.2.2.2.2.2.2.2.2.2.2.1 d.2.2.2.2.2.2.2.2.2.2.2.2.2.2.2.2.1 d.2.2.2.2.2.2.2.2.2.2.2.2.2.2.2.2.2.1 d.2.2.2.2.2.2.2.2.2.2.2.2.2.2.2.2.2.2.1 d.2.2.2.2.2.2.2.2.2.2.2.2.2.2.2.2.2.2.2.1 d.2.2.2.2.2.2.2.2.2.2.2.2.2.2.2.2.2.2.2.2.1 d.2.2.2.2.2.2.2.2.2.2.2.2.2.2.2.2.2.2.2.2.2.1 d.2.2.2.2.2.2.2.2.2.2.2.2.2.2.2.2.2.2.2.2.2.2.1 d.2.2.2.2.2.2.2.2.2.2.2.2.2.2.2.2.2.2.2.2.2.2.2.1 t.1 t.2.1 t.2.2.1 t.2.2.2.1 t.2.2.2.2.1 t.2.2.2.2.2.1=bif fR d&&b then some (r.1,r.2.1,r.2.2.1,r.2.2.2.1,r.2.2.2.2.1,r.2.2.2.2.2.1,r.2.2.2.2.2.2.1,r.2.2.2.2.2.2.2.1,r.2.2.2.2.2.2.2.2.1,r.2.2.2.2.2.2.2.2.2.1,r.2.2.2.2.2.2.2.2.2.2.1,r.2.2.2.2.2.2.2.2.2.2.2.1,r.2.2.2.2.2.2.2.2.2.2.2.2.1,r.2.2.2.2.2.2.2.2.2.2.2.2.2.1,r.2.2.2.2.2.2.2.2.2.2.2.2.2.2.1,r.2.2.2.2.2.2.2.2.2.2.2.2.2.2.2.1,r.2.2.2.2.2.2.2.2.2.2.2.2.2.2.2.2.1,r.2.2.2.2.2.2.2.2.2.2.2.2.2.2.2.2.2.1,r.2.2.2.2.2.2.2.2.2.2.2.2.2.2.2.2.2.2.1,r.2.2.2.2.2.2.2.2.2.2.2.2.2.2.2.2.2.2.2.1,r.2.2.2.2.2.2.2.2.2.2.2.2.2.2.2.2.2.2.2.2.1,r.2.2.2.2.2.2.2.2.2.2.2.2.2.2.2.2.2.2.2.2.2.1,r.2.2.2.2.2.2.2.2.2.2.2.2.2.2.2.2.2.2.2.2.2.2.1,r.2.2.2.2.2.2.2.2.2.2.2.2.2.2.2.2.2.2.2.2.2.2.2.1,said,nx.1,nx.2.1,nx.2.2.1,nx.2.2.2.1,nx.2.2.2.2.1,nx.2.2.2.2.2.1,true,()) else some (d.1,d.2.1,d.2.2.1,d.2.2.2.1,d.2.2.2.2.1,d.2.2.2.2.2.1,d.2.2.2.2.2.2.1,d.2.2.2.2.2.2.2.1,d.2.2.2.2.2.2.2.2.1,d.2.2.2.2.2.2.2.2.2.1,d.2.2.2.2.2.2.2.2.2.2.1,d.2.2.2.2.2.2.2.2.2.2.2.1,d.2.2.2.2.2.2.2.2.2.2.2.2.1,d.2.2.2.2.2.2.2.2.2.2.2.2.2.1,d.2.2.2.2.2.2.2.2.2.2.2.2.2.2.1,d.2.2.2.2.2.2.2.2.2.2.2.2.2.2.2.1,d.2.2.2.2.2.2.2.2.2.2.2.2.2.2.2.2.1,d.2.2.2.2.2.2.2.2.2.2.2.2.2.2.2.2.2.1,d.2.2.2.2.2.2.2.2.2.2.2.2.2.2.2.2.2.2.1,d.2.2.2.2.2.2.2.2.2.2.2.2.2.2.2.2.2.2.2.1,d.2.2.2.2.2.2.2.2.2.2.2.2.2.2.2.2.2.2.2.2.1,d.2.2.2.2.2.2.2.2.2.2.2.2.2.2.2.2.2.2.2.2.2.1,d.2.2.2.2.2.2.2.2.2.2.2.2.2.2.2.2.2.2.2.2.2.2.1,d.2.2.2.2.2.2.2.2.2.2.2.2.2.2.2.2.2.2.2.2.2.2.2.1,[],(0:Int),(0:Int),(0:Int),(0:Int),(0:Int),[],false,()):=by
 unfold gv;delta ba aT bA bt;rw [p1,Option.bind_some,hi,Option.bind_some]
 cases fR d
 ·rfl
 ·cases b
  ·simp only [Bool.not_true,cond_false,c1,Option.bind_some,Bool.not_false,cond_true,Bool.and_false]
  ·simp only [Bool.not_true,cond_false,c1,Option.bind_some,e1 rfl,Bool.and_self,cond_true]
theorem Ev (d:bY) (t:kJ) (m:iG) (said:aU) (k:Int) (nx:kJ) (b:Bool) (r:bY) (p2:ee d.1 d.2.1 d.2.2.1 d.2.2.2.1 d.2.2.2.2.1 d.2.2.2.2.2.1 d.2.2.2.2.2.2.1 d.2.2.2.2.2.2.2.1 d.2.2.2.2.2.2.2.2.1 d.2.2.2.2.2.2.2.2.2.1 d.2.2.2.2.2.2.2.2.2.2.1 d.2.2.2.2.2.2.2.2.2.2.2.1 d.2.2.2.2.2.2.2.2.2.2.2.2.1 d.2.2.2.2.2.2.2.2.2.2.2.2.2.1 d.2.2.2.2.2.2.2.2.2.2.2.2.2.2.1 d.2.2.2.2.2.2.2.2.2.2.2.2.2.2.2.1 d.2.2.2.2.2.2.2.2.2.2.2.2.2.2.2.2.1 d.2.2.2.2.2.2.2.2.2.2.2.2.2.2.2.2.2.1 d.2.2.2.2.2.2.2.2.2.2.2.2.2.2.2.2.2.2.1 d.2.2.2.2.2.2.2.2.2.2.2.2.2.2.2.2.2.2.2.1 d.2.2.2.2.2.2.2.2.2.2.2.2.2.2.2.2.2.2.2.2.1 d.2.2.2.2.2.2.2.2.2.2.2.2.2.2.2.2.2.2.2.2.2.1 d.2.2.2.2.2.2.2.2.2.2.2.2.2.2.2.2.2.2.2.2.2.2.1 d.2.2.2.2.2.2.2.2.2.2.2.2.2.2.2.2.2.2.2.2.2.2.2.1=some d) (k2:dW d.1 d.2.1 d.2.2.1 d.2.2.2.1 d.2.2.2.2.1 d.2.2.2.2.2.1 d.2.2.2.2.2.2.1 d.2.2.2.2.2.2.2.1 d.2.2.2.2.2.2.2.2.1 d.2.2.2.2.2.2.2.2.2.1 d.2.2.2.2.2.2.2.2.2.2.1 d.2.2.2.2.2.2.2.2.2.2.2.1 d.2.2.2.2.2.2.2.2.2.2.2.2.1 d.2.2.2.2.2.2.2.2.2.2.2.2.2.1 d.2.2.2.2.2.2.2.2.2.2.2.2.2.2.1 d.2.2.2.2.2.2.2.2.2.2.2.2.2.2.2.1 d.2.2.2.2.2.2.2.2.2.2.2.2.2.2.2.2.1 d.2.2.2.2.2.2.2.2.2.2.2.2.2.2.2.2.2.1 d.2.2.2.2.2.2.2.2.2.2.2.2.2.2.2.2.2.2.1 d.2.2.2.2.2.2.2.2.2.2.2.2.2.2.2.2.2.2.2.1 d.2.2.2.2.2.2.2.2.2.2.2.2.2.2.2.2.2.2.2.2.1 d.2.2.2.2.2.2.2.2.2.2.2.2.2.2.2.2.2.2.2.2.2.1 d.2.2.2.2.2.2.2.2.2.2.2.2.2.2.2.2.2.2.2.2.2.2.1 d.2.2.2.2.2.2.2.2.2.2.2.2.2.2.2.2.2.2.2.2.2.2.2.1=some (jU d,())) (hq:(!decide (d.2.2.2.1=0)&&decide (d.2.2.2.2.2.2.2.2.2.2.2.2.2.2.2.2.2.2.2.2.1=0)&&jU d)=fR d) (c2:lE d.2.2.1 d.2.2.2.1 d.2.2.2.2.1 d.2.2.2.2.2.1 d.2.2.2.2.2.2.1 d.2.2.2.2.2.2.2.1 d.2.2.2.2.2.2.2.2.1 d.2.2.2.2.2.2.2.2.2.1 d.2.2.2.2.2.2.2.2.2.2.1 d.2.2.2.2.2.2.2.2.2.2.2.1 d.2.2.2.2.2.2.2.2.2.2.2.2.1 d.2.2.2.2.2.2.2.2.2.2.2.2.2.1 d.2.2.2.2.2.2.2.2.2.2.2.2.2.2.1 d.2.2.2.2.2.2.2.2.2.2.2.2.2.2.2.1 d.2.2.2.2.2.2.2.2.2.2.2.2.2.2.2.2.1 d.2.2.2.2.2.2.2.2.2.2.2.2.2.2.2.2.2.1 t.1 t.2.1 t.2.2.1 t.2.2.2.1 t.2.2.2.2.1 t.2.2.2.2.2.1=some (m.1,m.2.1,m.2.2.1,m.2.2.2.1,m.2.2.2.2.1,m.2.2.2.2.2.1,m.2.2.2.2.2.2.1,m.2.2.2.2.2.2.2.1,m.2.2.2.2.2.2.2.2.1,m.2.2.2.2.2.2.2.2.2.1,m.2.2.2.2.2.2.2.2.2.2.1,m.2.2.2.2.2.2.2.2.2.2.2.1,m.2.2.2.2.2.2.2.2.2.2.2.2.1,m.2.2.2.2.2.2.2.2.2.2.2.2.2.1,m.2.2.2.2.2.2.2.2.2.2.2.2.2.2.1,m.2.2.2.2.2.2.2.2.2.2.2.2.2.2.2.1,said,k,nx.1,nx.2.1,nx.2.2.1,nx.2.2.2.1,nx.2.2.2.2.1,nx.2.2.2.2.2.1,b,()))
  (e2:b=true→gi d.1 d.2.1 m.1 m.2.1 m.2.2.1 m.2.2.2.1 m.2.2.2.2.1 m.2.2.2.2.2.1 m.2.2.2.2.2.2.1 m.2.2.2.2.2.2.2.1 m.2.2.2.2.2.2.2.2.1 m.2.2.2.2.2.2.2.2.2.1 m.2.2.2.2.2.2.2.2.2.2.1 m.2.2.2.2.2.2.2.2.2.2.2.1 m.2.2.2.2.2.2.2.2.2.2.2.2.1 m.2.2.2.2.2.2.2.2.2.2.2.2.2.1 m.2.2.2.2.2.2.2.2.2.2.2.2.2.2.1 m.2.2.2.2.2.2.2.2.2.2.2.2.2.2.2.1 d.2.2.2.2.2.2.2.2.2.2.2.2.2.2.2.2.2.2.1 d.2.2.2.2.2.2.2.2.2.2.2.2.2.2.2.2.2.2.2.1 d.2.2.2.2.2.2.2.2.2.2.2.2.2.2.2.2.2.2.2.2.1 d.2.2.2.2.2.2.2.2.2.2.2.2.2.2.2.2.2.2.2.2.2.1 d.2.2.2.2.2.2.2.2.2.2.2.2.2.2.2.2.2.2.2.2.2.2.1 d.2.2.2.2.2.2.2.2.2.2.2.2.2.2.2.2.2.2.2.2.2.2.2.1=some r):gy d.1 d.2.1 d.2.2.1 d.2.2.2.1 d.2.2.2.2.1 d.2.2.2.2.2.1 d.2.2.2.2.2.2.1 d.2.2.2.2.2.2.2.1 d.2.2.2.2.2.2.2.2.1 d.2.2.2.2.2.2.2.2.2.1 d.2.2.2.2.2.2.2.2.2.2.1 d.2.2.2.2.2.2.2.2.2.2.2.1 d.2.2.2.2.2.2.2.2.2.2.2.2.1 d.2.2.2.2.2.2.2.2.2.2.2.2.2.1 d.2.2.2.2.2.2.2.2.2.2.2.2.2.2.1 d.2.2.2.2.2.2.2.2.2.2.2.2.2.2.2.1 d.2.2.2.2.2.2.2.2.2.2.2.2.2.2.2.2.1 d.2.2.2.2.2.2.2.2.2.2.2.2.2.2.2.2.2.1 d.2.2.2.2.2.2.2.2.2.2.2.2.2.2.2.2.2.2.1 d.2.2.2.2.2.2.2.2.2.2.2.2.2.2.2.2.2.2.2.1 d.2.2.2.2.2.2.2.2.2.2.2.2.2.2.2.2.2.2.2.2.1 d.2.2.2.2.2.2.2.2.2.2.2.2.2.2.2.2.2.2.2.2.2.1 d.2.2.2.2.2.2.2.2.2.2.2.2.2.2.2.2.2.2.2.2.2.2.1 d.2.2.2.2.2.2.2.2.2.2.2.2.2.2.2.2.2.2.2.2.2.2.2.1 t.1 t.2.1 t.2.2.1 t.2.2.2.1 t.2.2.2.2.1 t.2.2.2.2.2.1=bif fR d&&b then some (r.1,r.2.1,r.2.2.1,r.2.2.2.1,r.2.2.2.2.1,r.2.2.2.2.2.1,r.2.2.2.2.2.2.1,r.2.2.2.2.2.2.2.1,r.2.2.2.2.2.2.2.2.1,r.2.2.2.2.2.2.2.2.2.1,r.2.2.2.2.2.2.2.2.2.2.1,r.2.2.2.2.2.2.2.2.2.2.2.1,r.2.2.2.2.2.2.2.2.2.2.2.2.1,r.2.2.2.2.2.2.2.2.2.2.2.2.2.1,r.2.2.2.2.2.2.2.2.2.2.2.2.2.2.1,r.2.2.2.2.2.2.2.2.2.2.2.2.2.2.2.1,r.2.2.2.2.2.2.2.2.2.2.2.2.2.2.2.2.1,r.2.2.2.2.2.2.2.2.2.2.2.2.2.2.2.2.2.1,r.2.2.2.2.2.2.2.2.2.2.2.2.2.2.2.2.2.2.1,r.2.2.2.2.2.2.2.2.2.2.2.2.2.2.2.2.2.2.2.1,r.2.2.2.2.2.2.2.2.2.2.2.2.2.2.2.2.2.2.2.2.1,r.2.2.2.2.2.2.2.2.2.2.2.2.2.2.2.2.2.2.2.2.2.1,r.2.2.2.2.2.2.2.2.2.2.2.2.2.2.2.2.2.2.2.2.2.2.1,r.2.2.2.2.2.2.2.2.2.2.2.2.2.2.2.2.2.2.2.2.2.2.2.1,said,nx.1,nx.2.1,nx.2.2.1,nx.2.2.2.1,nx.2.2.2.2.1,nx.2.2.2.2.2.1,true,()) else some (d.1,d.2.1,d.2.2.1,d.2.2.2.1,d.2.2.2.2.1,d.2.2.2.2.2.1,d.2.2.2.2.2.2.1,d.2.2.2.2.2.2.2.1,d.2.2.2.2.2.2.2.2.1,d.2.2.2.2.2.2.2.2.2.1,d.2.2.2.2.2.2.2.2.2.2.1,d.2.2.2.2.2.2.2.2.2.2.2.1,d.2.2.2.2.2.2.2.2.2.2.2.2.1,d.2.2.2.2.2.2.2.2.2.2.2.2.2.1,d.2.2.2.2.2.2.2.2.2.2.2.2.2.2.1,d.2.2.2.2.2.2.2.2.2.2.2.2.2.2.2.1,d.2.2.2.2.2.2.2.2.2.2.2.2.2.2.2.2.1,d.2.2.2.2.2.2.2.2.2.2.2.2.2.2.2.2.2.1,d.2.2.2.2.2.2.2.2.2.2.2.2.2.2.2.2.2.2.1,d.2.2.2.2.2.2.2.2.2.2.2.2.2.2.2.2.2.2.2.1,d.2.2.2.2.2.2.2.2.2.2.2.2.2.2.2.2.2.2.2.2.1,d.2.2.2.2.2.2.2.2.2.2.2.2.2.2.2.2.2.2.2.2.2.1,d.2.2.2.2.2.2.2.2.2.2.2.2.2.2.2.2.2.2.2.2.2.2.1,d.2.2.2.2.2.2.2.2.2.2.2.2.2.2.2.2.2.2.2.2.2.2.2.1,[],(0:Int),(0:Int),(0:Int),(0:Int),(0:Int),[],false,()):=by
 unfold gy jQ gH;delta bA ba az aT eC;rw [p2,Option.bind_some,←hq]
 cases decide (d.2.2.2.1=0)
 ·cases decide (d.2.2.2.2.2.2.2.2.2.2.2.2.2.2.2.2.2.2.2.2.1=0)
  ·rfl
  ·simp only [Bool.not_false,cond_true,Option.bind_some,Bool.not_true,cond_false,k2,Bool.true_and]
   cases jU d
   ·rfl
   ·cases b
    ·simp only [Bool.not_true,cond_false,c2,Option.bind_some,Bool.not_false,cond_true,Bool.and_false]
    ·simp only [Bool.not_true,cond_false,c2,Option.bind_some,e2 rfl,Bool.and_self,cond_true]
 ·rfl
end Go.TM
set_option linter.unusedSimpArgs false
set_option linter.unusedVariables false
namespace Go.TM
open Go
structure OU (e:wu):Prop where
 ring:e.2.2.1.length≤5
 Es:e.2.2.2.2.2.2.2.1.length≤5
 text:ByteArray.size e.2.2.2.2.2.2.1≤60
structure lI (n:Nat) (d:bY):Prop where
 q:ye d
 Ut:d.2.2.2.2.2.2.2.2.2.2.2.2.2.2.2.2.2.2.2.2.2.2.1.length≤n
 log:d.2.2.2.2.2.2.2.2.2.2.2.2.2.2.2.2.2.2.2.2.2.2.2.1.length≤63*n
 Y0:∀e∈d.2.2.2.2.2.2.2.2.2.2.2.2.2.2.2.2.2.2.2.2.2.2.2.1,OU e
theorem lI.up {n n':Nat} {d:bY} (h:lI n d) (hn:n≤n'):lI n' d:=⟨h.q,Nat.le_trans h.Ut hn,Nat.le_trans h.log (Nat.mul_le_mul_left 63 hn),h.Y0⟩
theorem zR {d:bY} (q:ye d):d.2.2.2.2.1.length≤5∧mg (aE d)≤5000:=by
 rcases q.tS with g | g
 ·have g1:d.2.2.2.2.1=[]:=g.2.2.1;have g2:d.2.2.2.2.2.1=[]:=g.2.2.2.1;have g3:d.2.2.2.2.2.2.1=[]:=g.2.2.2.2.1;have g4:d.2.2.2.2.2.2.2.1=[]:=g.2.2.2.2.2.1;have g5:d.2.2.2.2.2.2.2.2.2.2.2.2.2.2.2.2.2.1=[]:=g.2.2.2.2.2.2.2.2.2.2.2.2.2.2.2;refine ⟨by rw [g1];exact Nat.zero_le _,?_⟩;show (List.length d.2.2.2.2.1+wl jR d.2.2.2.2.1)+(List.length d.2.2.2.2.2.1+wl dF d.2.2.2.2.2.1)+(List.length d.2.2.2.2.2.2.1+wl jR d.2.2.2.2.2.2.1)+(List.length d.2.2.2.2.2.2.2.1+wl JK d.2.2.2.2.2.2.2.1)+(List.length d.2.2.2.2.2.2.2.2.2.2.2.2.2.2.2.2.2.1+wl jR d.2.2.2.2.2.2.2.2.2.2.2.2.2.2.2.2.2.1)≤5000;rw [g1,g2,g3,g4,g5]
  decide
 ·exact ⟨g.1.ring.2.1.2,g.1.small⟩
theorem yk {b:ea} (h:C1 b):b.2.2.2.1.length≤60∧wl dF b.2.2.2.1≤3600:=dm _ h.2.2.2.1
theorem QW {d:bY} (q:ye d):d.2.2.2.2.2.2.2.2.2.2.2.2.2.2.2.2.2.2.2.2.2.1.length≤5∧∀b∈d.2.2.2.2.2.2.2.2.2.2.2.2.2.2.2.2.2.2.2.2.2.2.1,C1 b:=by
 rcases q.nS with g | g
 ·exact ⟨by rw [g.2.1];exact Nat.zero_le _,by rw [g.2.2];exact fun b hb=>by cases hb⟩
 ·exact ⟨g.1.2.1.2,fun b hb=>(g.2.2.2 b hb).1⟩
theorem lI.small {n:Nat} {d:bY} (h:lI n d) (hn:n≤100):ow d≤1048576:=by
 have h1:=(zR h.q).2;obtain ⟨h2,h3⟩:=QW h.q;have h4:=IM ed 3660 d.2.2.2.2.2.2.2.2.2.2.2.2.2.2.2.2.2.2.2.2.2.2.1 (fun b hb=>by
  have:=yk (h3 b hb);have e:ed b=b.2.2.2.1.length+wl dF b.2.2.2.1:=rfl;omega)
 have h5:=IM bu 70 d.2.2.2.2.2.2.2.2.2.2.2.2.2.2.2.2.2.2.2.2.2.2.2.1 (fun e he=>by
  obtain ⟨e1,e2,e3⟩:=h.Y0 e he;have e4:bu e=(e.2.2.1.length+wl jR e.2.2.1)+ByteArray.size e.2.2.2.2.2.2.1+(e.2.2.2.2.2.2.2.1.length+wl jR e.2.2.2.2.2.2.2.1):=rfl;have e5:wl jR e.2.2.1=0:=nb jR (fun _=>rfl) _;have e6:wl jR e.2.2.2.2.2.2.2.1=0:=nb jR (fun _=>rfl) _;omega)
 have h6:wl jR d.2.2.2.2.2.2.2.2.2.2.2.2.2.2.2.2.2.2.2.2.2.1=0:=nb jR (fun _=>rfl) _;have h7:=h.Ut;have h8:=h.log;have e:ow d=mg (aE d)+(List.length d.2.2.2.2.2.2.2.2.2.2.2.2.2.2.2.2.2.2.2.2.2.1+wl jR d.2.2.2.2.2.2.2.2.2.2.2.2.2.2.2.2.2.2.2.2.2.1)+(List.length d.2.2.2.2.2.2.2.2.2.2.2.2.2.2.2.2.2.2.2.2.2.2.1+wl ed d.2.2.2.2.2.2.2.2.2.2.2.2.2.2.2.2.2.2.2.2.2.2.1)+(List.length d.2.2.2.2.2.2.2.2.2.2.2.2.2.2.2.2.2.2.2.2.2.2.2.1+wl bu d.2.2.2.2.2.2.2.2.2.2.2.2.2.2.2.2.2.2.2.2.2.2.2.1):=rfl;omega
theorem BS {d:bY} (q:ye d) (h:¬d.2.2.2.2.2.2.2.2.2.2.2.2.2.2.2.2.2.2.2.1=0):qW (aE d)∧d.2.2.1=d.1∧d.2.1=false:=by
 have hd:d.2.1=false:=by
  cases e:d.2.1
  ·rfl
  ·exact absurd (q.dead e).2.1 h
 rcases q.tS with g | g
 ·have h1:d.2.2.2.1=0:=g.2.1;have h2:=q.old.1;exact absurd (h2.trans h1) h
 ·exact ⟨g.1,g.2,hd⟩
theorem QX {d:bY} {m:iG} (h:ye d) (hd:d.2.1=false) (hm:qW m) (h1:m.1=d.1) (h2:m.2.1=d.2.2.2.1):ye (fA d m):=
 {
  id:=h.id
  xD:=h.xD
  dead:=fun e=>by
   have e:d.2.1=true:=e;rw [hd] at e;cases e
  tS:=.inr ⟨hm,h1⟩
  old:=⟨h.old.1.trans h2.symm,h.old.2⟩
  nS:=h.nS }
theorem wz {n:Nat} {d:bY} {m:iG} (h:lI n d) (hd:d.2.1=false) (hm:qW m) (h1:m.1=d.1) (h2:m.2.1=d.2.2.2.1):lI n (fA d m):=⟨QX h.q hd hm h1 h2,h.Ut,h.log,h.Y0⟩
theorem amb {n:Nat} {d:bY} (h:lI n d) (hn:n≤100) {level:Int} {text:ByteArray} (hl:1≤level∧level≤2) (ht:ByteArray.size text≤60) (hb:(bK d level text).2=true):lI (n+1) (bK d level text).1∧(bK d level text).1.1=d.1:=by
 have hW:=h.small hn;have hq:=h.q;unfold bK at hb ⊢
 cases hc:(jU d&&(!d.2.1&&(!decide (d.2.2.2.2.2.2.2.2.2.2.2.2.2.2.2.2.2.2.2.1=0)&&(ez (aE d) level text).2)))
 ·rw [hc] at hb;cases hb
 ·simp only [cond_true];simp only [Bool.and_eq_true,Bool.not_eq_true',decide_eq_false_iff_not] at hc;obtain ⟨_,c1,c2,c3⟩:=hc;obtain ⟨m1,m2,_⟩:=BS hq c2;have aap:QN (aE d) level text=true:=by
   unfold ez at c3
   cases hm2:QN (aE d) level text
   ·rw [hm2] at c3;cases c3
   ·rfl
  have hs:(ez (aE d) level text).1=Gj (aE d) level text:=by unfold ez;rw [aap];rfl
  unfold QN at aap;simp only [Bool.and_eq_true,decide_eq_true_eq] at aap;rw [hs];exact ⟨(wz h c1 (Sf m1 hl ht aap.2.2.2) m2 rfl).up (Nat.le_succ n),rfl⟩
theorem MT {xs:aU} (h:fa xs xs.length) (s:Int):ByteArray.size (mi xs s).2.2.2.1≤60:=by
 unfold mi
 cases e:ey xs s with
 |none=>show (0:Nat)≤60;decide
 |some r=>exact (sg h r (zG e).1).2.2.2
theorem MU {c:Int} {ms:dG} {l:aU} (hm:ms.length≤5) (hl:∀x∈l,ByteArray.size x.2.2.2.1≤60):∀e∈fE c ms l,OU e:=fun e he=>by
 obtain ⟨x,hx,rfl⟩:=List.mem_map.1 he;exact ⟨hm,Nat.zero_le _,hl x hx⟩
theorem OW {m:iG} (hm:qW m):∃k:Nat,k≤60∧ch m=(yi m (m.2.2.2.2.2.2.2.2.2.1+((k:Nat):Int)),gV m.2.2.2.1 m.2.2.2.2.2.2.2.2.2.1 k)∧qW (yi m (m.2.2.2.2.2.2.2.2.2.1+((k:Nat):Int))):=by
 obtain ⟨k,n,rfl,_,e,q,g,_⟩:=Sg hm;have ha:=(xC m.2.2.2.1 (Nat.le_trans (dm _ hm.items).1 (by decide))).2.2.1;have hi:=(dm _ hm.items).1;have hg:=hm.heard;refine ⟨k,by omega,?_,q⟩;unfold ch;rw [e]
theorem Yx {d:bY} (q:ye d) (l:aU):ye (pC d l):={ id:=q.id,xD:=q.xD,dead:=q.dead,tS:=q.tS,old:=q.old,nS:=q.nS }
theorem QY (d:bY) (l:aU):(pC d l).2.2.2.2.2.2.2.2.2.2.2.2.2.2.2.2.2.2.2.2.2.2.2.1=d.2.2.2.2.2.2.2.2.2.2.2.2.2.2.2.2.2.2.2.2.2.2.2.1++fE d.2.2.2.1 d.2.2.2.2.1 l∧(pC d l).2.2.2.2.2.2.2.2.2.2.2.2.2.2.2.2.2.2.2.2.2.2.1=d.2.2.2.2.2.2.2.2.2.2.2.2.2.2.2.2.2.2.2.2.2.2.1∧(pC d l).1=d.1:=⟨rfl,rfl,rfl⟩
theorem Yy {n:Nat} {d:bY} (h:lI n d) {l:aU} (hm:(d.2.2.2.2.1).length≤5) (hl:l.length≤60) (ht:∀x∈l,ByteArray.size x.2.2.2.1≤60):lI (n+1) (pC d l)∧(pC d l).1=d.1:=by
 obtain ⟨e1,e2,e3⟩:=QY d l;refine ⟨⟨Yx h.q l,by rw [e2];exact Nat.le_trans h.Ut (Nat.le_succ n),?_,fun x hx => ?_⟩,e3⟩
 ·have:=h.log;rw [e1,List.length_append,oz];omega
 ·rw [e1] at hx;rcases List.mem_append.1 hx with hx | hx
  ·exact h.Y0 x hx
  ·exact MU hm ht x hx
theorem OX {n:Nat} {d:bY} (h:lI n d) (hm:qW (aE d)) (h1:d.2.2.1=d.1) (hd:d.2.1=false):lI (n+1) (tU d)∧(tU d).1=d.1:=by
 obtain ⟨k,hk,e,q⟩:=OW hm;have hw:=wz h hd q h1 rfl;unfold tU;rw [e];refine Yy hw hm.ring.2.1.2 (by rw [zQ];exact hk) fun x hx => ?_
 obtain ⟨j,_,rfl⟩:=List.mem_map.1 hx;exact MT hm.items _
theorem aaq {m:iG} (hm:qW m) (x:dY):qW (qY m x)∧(qY m x).1=m.1∧(qY m x).2.1=m.2.1:=by
 have hi:=(dm _ hm.items).1
 cases hx:Ab x
 ·have hc:qY m x=m:=by
   unfold qY IT;rw [hx]
   cases sW m<;>cases m6 m.2.2.2.1<;>rfl
  rw [hc];exact ⟨hm,rfl,rfl⟩
 ·have hq:=(zK x).2.2.1 hx;have hp:=zL hm.items hq;have YS:=(dm _ hp).1;have ha:cY m.2.2.2.1≤cY (mh m.2.2.2.1 x):=OO (by omega) (by omega) fun r hr=>⟨r,FB hr,rfl⟩
  have hc:qY m x=Lu m (mh m.2.2.2.1 x):=by
   unfold qY IT;rw [(qX m (Nat.le_trans hm.small (by decide))).2.2.2 hm,(pr _ (by omega)).2.2.2 hm.items,(zK x).2.2.2 hq];rfl
  rw [hc];exact ⟨{ hm with
   items:=hp
   line:=⟨hm.line.1,by show m.2.2.2.2.2.2.2.2.1≤((cY (mh m.2.2.2.1 x):Nat):Int);have:=hm.line.2;omega⟩
   heard:=⟨hm.heard.1,by show m.2.2.2.2.2.2.2.2.2.1≤((cY (mh m.2.2.2.1 x):Nat):Int);have:=hm.heard.2;omega⟩ },rfl,rfl⟩
theorem ve {d:bY} (h:ow d≤1048576) (hi:fR d=true):qW (aE d)∧d.2.2.1=d.1∧d.2.1=false∧¬d.2.2.2.2.2.2.2.2.2.2.2.2.2.2.2.2.2.2.2.1=0:=by
 obtain ⟨q,_,h2,_,h4,_⟩:=OK d h hi;have mU:¬d.2.2.2.2.2.2.2.2.2.2.2.2.2.2.2.2.2.2.2.1=0:=by omega
 obtain ⟨m1,m2,_⟩:=BS q mU;exact ⟨m1,m2,h2,mU⟩
theorem QZ {n:Nat} {d:bY} (h:lI n d) (hn:n≤100) (ri:Int) (x:dY):lI (n+1) (vd d ri x)∧(vd d ri x).1=d.1:=by
 unfold vd
 cases hc:(fR d&&decide (d.2.2.2.2.2.2.2.2.2.2.2.2.2.2.2.2.2.2.2.1=ri))
 ·exact ⟨h.up (Nat.le_succ n),rfl⟩
 ·simp only [Bool.and_eq_true] at hc;obtain ⟨m1,m2,m3,_⟩:=ve (h.small hn) hc.1;obtain ⟨c1,c2,c3⟩:=aaq m1 x;exact OX (wz h m3 c1 (c2.trans m2) c3) c1 (c2.trans m2) m3
theorem Ly {n:Nat} {d:bY} (h:lI n d) (hn:n≤100) (t:kJ) (hw:t.2.2.2.2.2.1.length≤1048576):∃(r:bY) (said:aU) (nx:kJ) (b:Bool),gv d.1 d.2.1 d.2.2.1 d.2.2.2.1 d.2.2.2.2.1 d.2.2.2.2.2.1 d.2.2.2.2.2.2.1 d.2.2.2.2.2.2.2.1 d.2.2.2.2.2.2.2.2.1 d.2.2.2.2.2.2.2.2.2.1 d.2.2.2.2.2.2.2.2.2.2.1 d.2.2.2.2.2.2.2.2.2.2.2.1 d.2.2.2.2.2.2.2.2.2.2.2.2.1 d.2.2.2.2.2.2.2.2.2.2.2.2.2.1 d.2.2.2.2.2.2.2.2.2.2.2.2.2.2.1 d.2.2.2.2.2.2.2.2.2.2.2.2.2.2.2.1 d.2.2.2.2.2.2.2.2.2.2.2.2.2.2.2.2.1 d.2.2.2.2.2.2.2.2.2.2.2.2.2.2.2.2.2.1 d.2.2.2.2.2.2.2.2.2.2.2.2.2.2.2.2.2.2.1 d.2.2.2.2.2.2.2.2.2.2.2.2.2.2.2.2.2.2.2.1 d.2.2.2.2.2.2.2.2.2.2.2.2.2.2.2.2.2.2.2.2.1 d.2.2.2.2.2.2.2.2.2.2.2.2.2.2.2.2.2.2.2.2.2.1 d.2.2.2.2.2.2.2.2.2.2.2.2.2.2.2.2.2.2.2.2.2.2.1 d.2.2.2.2.2.2.2.2.2.2.2.2.2.2.2.2.2.2.2.2.2.2.2.1 t.1 t.2.1 t.2.2.1 t.2.2.2.1 t.2.2.2.2.1 t.2.2.2.2.2.1=some (r.1,r.2.1,r.2.2.1,r.2.2.2.1,r.2.2.2.2.1,r.2.2.2.2.2.1,r.2.2.2.2.2.2.1,r.2.2.2.2.2.2.2.1,r.2.2.2.2.2.2.2.2.1,r.2.2.2.2.2.2.2.2.2.1,r.2.2.2.2.2.2.2.2.2.2.1,r.2.2.2.2.2.2.2.2.2.2.2.1,r.2.2.2.2.2.2.2.2.2.2.2.2.1,r.2.2.2.2.2.2.2.2.2.2.2.2.2.1,r.2.2.2.2.2.2.2.2.2.2.2.2.2.2.1,r.2.2.2.2.2.2.2.2.2.2.2.2.2.2.2.1,r.2.2.2.2.2.2.2.2.2.2.2.2.2.2.2.2.1,r.2.2.2.2.2.2.2.2.2.2.2.2.2.2.2.2.2.1,r.2.2.2.2.2.2.2.2.2.2.2.2.2.2.2.2.2.2.1,r.2.2.2.2.2.2.2.2.2.2.2.2.2.2.2.2.2.2.2.1,r.2.2.2.2.2.2.2.2.2.2.2.2.2.2.2.2.2.2.2.2.1,r.2.2.2.2.2.2.2.2.2.2.2.2.2.2.2.2.2.2.2.2.2.1,r.2.2.2.2.2.2.2.2.2.2.2.2.2.2.2.2.2.2.2.2.2.2.1,r.2.2.2.2.2.2.2.2.2.2.2.2.2.2.2.2.2.2.2.2.2.2.2.1,said,nx.1,nx.2.1,nx.2.2.1,nx.2.2.2.1,nx.2.2.2.2.1,nx.2.2.2.2.2.1,b,())∧gy d.1 d.2.1 d.2.2.1 d.2.2.2.1 d.2.2.2.2.1 d.2.2.2.2.2.1 d.2.2.2.2.2.2.1 d.2.2.2.2.2.2.2.1 d.2.2.2.2.2.2.2.2.1 d.2.2.2.2.2.2.2.2.2.1 d.2.2.2.2.2.2.2.2.2.2.1 d.2.2.2.2.2.2.2.2.2.2.2.1 d.2.2.2.2.2.2.2.2.2.2.2.2.1 d.2.2.2.2.2.2.2.2.2.2.2.2.2.1 d.2.2.2.2.2.2.2.2.2.2.2.2.2.2.1 d.2.2.2.2.2.2.2.2.2.2.2.2.2.2.2.1 d.2.2.2.2.2.2.2.2.2.2.2.2.2.2.2.2.1 d.2.2.2.2.2.2.2.2.2.2.2.2.2.2.2.2.2.1 d.2.2.2.2.2.2.2.2.2.2.2.2.2.2.2.2.2.2.1 d.2.2.2.2.2.2.2.2.2.2.2.2.2.2.2.2.2.2.2.1 d.2.2.2.2.2.2.2.2.2.2.2.2.2.2.2.2.2.2.2.2.1 d.2.2.2.2.2.2.2.2.2.2.2.2.2.2.2.2.2.2.2.2.2.1 d.2.2.2.2.2.2.2.2.2.2.2.2.2.2.2.2.2.2.2.2.2.2.1 d.2.2.2.2.2.2.2.2.2.2.2.2.2.2.2.2.2.2.2.2.2.2.2.1 t.1 t.2.1 t.2.2.1 t.2.2.2.1 t.2.2.2.2.1 t.2.2.2.2.2.1=some (r.1,r.2.1,r.2.2.1,r.2.2.2.1,r.2.2.2.2.1,r.2.2.2.2.2.1,r.2.2.2.2.2.2.1,r.2.2.2.2.2.2.2.1,r.2.2.2.2.2.2.2.2.1,r.2.2.2.2.2.2.2.2.2.1,r.2.2.2.2.2.2.2.2.2.2.1,r.2.2.2.2.2.2.2.2.2.2.2.1,r.2.2.2.2.2.2.2.2.2.2.2.2.1,r.2.2.2.2.2.2.2.2.2.2.2.2.2.1,r.2.2.2.2.2.2.2.2.2.2.2.2.2.2.1,r.2.2.2.2.2.2.2.2.2.2.2.2.2.2.2.1,r.2.2.2.2.2.2.2.2.2.2.2.2.2.2.2.2.1,r.2.2.2.2.2.2.2.2.2.2.2.2.2.2.2.2.2.1,r.2.2.2.2.2.2.2.2.2.2.2.2.2.2.2.2.2.2.1,r.2.2.2.2.2.2.2.2.2.2.2.2.2.2.2.2.2.2.2.1,r.2.2.2.2.2.2.2.2.2.2.2.2.2.2.2.2.2.2.2.2.1,r.2.2.2.2.2.2.2.2.2.2.2.2.2.2.2.2.2.2.2.2.2.1,r.2.2.2.2.2.2.2.2.2.2.2.2.2.2.2.2.2.2.2.2.2.2.1,r.2.2.2.2.2.2.2.2.2.2.2.2.2.2.2.2.2.2.2.2.2.2.2.1,said,nx.1,nx.2.1,nx.2.2.1,nx.2.2.2.1,nx.2.2.2.2.1,nx.2.2.2.2.2.1,b,())∧lI (n+1) r∧r.1=d.1∧
  (b=false→r=d∧(fR d=false∨I0 (aE d) t=false))∧(b=true→fR d=true∧JL t∧∃(m:iG) (k:Nat),al9 (aE d) t m said k nx∧r=tU (fA d m)):=by
 have hW:=h.small hn;obtain ⟨k1,k2,_⟩:=m7 d hW;obtain ⟨p1,p2⟩:=uQ d hW;have hwm:mg (aE d)≤1048576:=Nat.le_trans (Sb d) hW
 cases hb:I0 (aE d) t
 ·obtain ⟨c2,c1⟩:=aan (aE d) t hwm hw hb;have e1:=Eu d t (aE d) [] ((0:Int),(0:Int),(0:Int),(0:Int),(0:Int),[],()) false d p1 (yg d hW) c1 (fun e=>by cases e);have e2:=Ev d t ((0:Int),(0:Int),[],[],[],[],(0:Int),(0:Int),(0:Int),(0:Int),(0:Int),(0:Int),(0:Int),(0:Int),(0:Int),[],()) [] (0:Int) ((0:Int),(0:Int),(0:Int),(0:Int),(0:Int),[],()) false d p2 k2 (C3 d hW) c2 (fun e=>by cases e);rw [Bool.and_false,cond_false] at e1 e2;exact ⟨d,[],((0:Int),(0:Int),(0:Int),(0:Int),(0:Int),[],()),false,e1,e2,h.up (Nat.le_succ n),rfl,fun _=>⟨rfl,.inr rfl⟩,fun e=>by cases e⟩
 ·have uf:=hb;unfold I0 at uf;simp only [Bool.and_eq_true,decide_eq_true_eq] at uf;obtain ⟨b1,b2,b3,b4,b5⟩:=uf;have hm:=(qX (aE d) hwm).2.2.1 b1;have ht:=(C2 t hw).2.2.1 b2;obtain ⟨m,said,k,nx,hh,c2,c1⟩:=aak (aE d) t hm ht b3 b4 b5;have hnW:=hh.nq.small;have hg:d.2.2.2.2.2.2.2.2.2.2.2.2.2.2.2.2.2.2.2.2.2.2.2.1.length≤1048576:=by unfold ow at hW;omega
  obtain ⟨e1,e2⟩:=IU (fA d m) (show mg m≤1048576 by omega) hg;have s1:=Eu d t m said nx true (tU (fA d m)) p1 (yg d hW) c1 (fun _=>e1);have s2:=Ev d t m said ((k:Nat):Int) nx true (tU (fA d m)) p2 k2 (C3 d hW) c2 (fun _=>e2);rw [Bool.and_true] at s1 s2
  cases hi:fR d
  ·rw [hi,cond_false] at s1 s2;exact ⟨d,[],((0:Int),(0:Int),(0:Int),(0:Int),(0:Int),[],()),false,s1,s2,h.up (Nat.le_succ n),rfl,fun _=>⟨rfl,.inl rfl⟩,fun e=>by cases e⟩
  ·rw [hi,cond_true] at s1 s2;obtain ⟨m1,m2,m3,_⟩:=ve hW hi;obtain ⟨g1,g2⟩:=OX (wz h m3 hh.nq (hh.id.1.trans m2) hh.id.2.1) hh.nq (hh.id.1.trans m2) m3;exact ⟨tU (fA d m),said,nx,true,s1,s2,g1,g2,fun e=>(by cases e),fun _=>⟨rfl,ht,m,k,hh,rfl⟩⟩
def Yz (d:bY):bY:=(d.1,true,0,0,[],[],[],[],0,0,0,0,0,0,0,0,0,[],d.2.2.2.2.2.2.2.2.2.2.2.2.2.2.2.2.2.2.1,0,0,[],[],d.2.2.2.2.2.2.2.2.2.2.2.2.2.2.2.2.2.2.2.2.2.2.2.1,())
theorem ahh {n:Nat} {d:bY} (h:lI n d):lI n (Yz d):=
 ⟨{
  id:=h.q.id
  xD:=h.q.xD
  dead:=fun _=>⟨⟨rfl,rfl,rfl,rfl,rfl,rfl,rfl,rfl,rfl,rfl,rfl,rfl,rfl,rfl,rfl,rfl⟩,rfl,rfl,rfl,rfl⟩
  tS:=.inl ⟨rfl,rfl,rfl,rfl,rfl,rfl,rfl,rfl,rfl,rfl,rfl,rfl,rfl,rfl,rfl,rfl⟩
  old:=⟨rfl,h.q.xD.1⟩
  nS:=.inl ⟨rfl,rfl,rfl⟩ },Nat.zero_le _,h.log,h.Y0⟩
theorem ahi {n:Nat} {d:bY} (h:lI n d) (hb:(jo d).2=true):lI n (jo d).1∧(jo d).1.1=d.1:=by
 unfold jo at hb ⊢
 cases hc:(jU d&&d.2.1)
 ·rw [hc] at hb;cases hb
 ·exact ⟨⟨{ id:=h.q.id,xD:=h.q.xD,dead:=fun e=>(by cases e),tS:=h.q.tS,old:=h.q.old,nS:=h.q.nS },h.Ut,h.log,h.Y0⟩,rfl⟩
end Go.TM
set_option linter.unusedSimpArgs false
set_option linter.unusedVariables false
namespace Go.TM
open Go
theorem Ew (xs:List ea) (c id:Int) (gz:ea):(ms:dG)→(out:dG)→(ms.foldl (fun out m=>iE xs c id gz out m.1) out).length≤out.length+ms.length
 | [],out=>by simp
 |m::ms,out=>by
  have h1:=Ei xs c id gz out m.1;have h2:=Ew xs c id gz ms (iE xs c id gz out m.1);rw [List.foldl_cons,List.length_cons];omega
theorem Q0 (xs:List ea) (c:Int) (ms:dG) (id:Int):(eZ xs c ms id).length≤ms.length:=by
 unfold eZ
 cases gR xs c id with
 |none=>exact Nat.zero_le _
 |some gz=>
  have:=Ew xs c id gz ms [];simpa using this
theorem Q1 (xs:List ea) (c:Int) (ms:dG) (id heard:Int) (h:jm xs):(uc xs c ms id heard).length≤60∧∀x∈uc xs c ms id heard,p8 x:=by
 refine ⟨(FE xs c ms id heard h).1,fun x hx => ?_⟩;have q8:∀x∈tT xs c ms id,p8 x:=fun x hx=>by
  unfold tT xF at hx;have hx:=(List.mem_filter.1 hx).1;refine sg (nT _ si fun l hl => ?_) x hx;obtain ⟨d,_,rfl⟩:=List.mem_map.1 hl;exact uP xs c h d
 unfold uc at hx
 split at hx
 ·cases hx
 ·rename_i gz _
  cases hz:decide (gz.2.2.1=0)
  ·rw [hz] at hx;exact q8 x (List.mem_filter.1 hx).1
  ·rw [hz] at hx;cases hx
theorem LA {d:bY} (q:ye d) (hj:¬d.2.2.2.2.2.2.2.2.2.2.2.2.2.2.2.2.2.2.2.2.1=0):ye (cC d):=by
 obtain ⟨j1,j2,j3,_⟩:=q.nS.resolve_left fun g=>hj g.1
 have hm:qW (aE (cC d)):={
  ring:=j1
  mem:=j2
  items:=fun k hk=>by cases hk
  texts:=by
   rcases q.tS with g | g
   ·have g1:d.2.2.2.2.2.2.1=[]:=g.2.2.2.2.1;have g2:d.2.2.2.2.2.2.2.1=[]:=g.2.2.2.2.2.1;show (d.2.2.2.2.2.2.2.1).length≤20∧(d.2.2.2.2.2.2.1).length=(d.2.2.2.2.2.2.2.1).length;rw [g1,g2];exact ⟨Nat.zero_le _,rfl⟩
   ·exact g.1.texts
  YY:=by
   rcases q.tS with g | g
   ·have g1:d.2.2.2.2.2.2.1=[]:=g.2.2.2.2.1;show yc d.2.2.2.2.2.2.1 (d.2.2.2.2.2.2.1).length;rw [g1];exact fun j hj=>by cases hj
   ·exact g.1.YY
  short:=by
   rcases q.tS with g | g
   ·have g2:d.2.2.2.2.2.2.2.1=[]:=g.2.2.2.2.2.1;show kI d.2.2.2.2.2.2.2.1 (d.2.2.2.2.2.2.2.1).length;rw [g2];exact fun j hj=>by cases hj
   ·exact g.1.short
  round:=⟨Int.le_refl _,show (0:Int)≤1000000000 by decide⟩
  seen:=⟨Int.le_refl _,show (0:Int)≤60 by decide⟩
  line:=⟨Int.le_refl _,Int.natCast_nonneg _⟩
  heard:=⟨Int.le_refl _,Int.natCast_nonneg _⟩
  last:=.inl ⟨rfl,rfl,rfl,rfl,rfl,rfl⟩ }
 exact
 {
  id:=q.id
  xD:=q.xD
  dead:=fun e=>by
   have e:d.2.1=true:=e;exact absurd (q.dead e).2.2.1 hj
  tS:=.inr ⟨hm,rfl⟩
  old:=⟨rfl,j3.2⟩
  nS:=.inl ⟨rfl,rfl,rfl⟩ }
theorem Gq {d:bY} (q:ye d) (hj:¬d.2.2.2.2.2.2.2.2.2.2.2.2.2.2.2.2.2.2.2.2.1=0) (hB:jm d.2.2.2.2.2.2.2.2.2.2.2.2.2.2.2.2.2.2.2.2.2.2.1) (he:∀e∈d.2.2.2.2.2.2.2.2.2.2.2.2.2.2.2.2.2.2.2.2.2.2.2.1,OU e):(yj d++[(3,d.2.2.2.2.2.2.2.2.2.2.2.2.2.2.2.2.2.2.2.2.1,d.2.2.2.2.2.2.2.2.2.2.2.2.2.2.2.2.2.2.2.2.2.1,0,0,0,ByteArray.empty,d.2.2.2.2.2.2.2.2.2.2.2.2.2.2.2.2.2.2.2.2.2.1,())]:List wu).length≤(d.2.2.2.2.2.2.2.2.2.2.2.2.2.2.2.2.2.2.2.2.2.2.2.1).length+62∧∀e∈(yj d++[(3,d.2.2.2.2.2.2.2.2.2.2.2.2.2.2.2.2.2.2.2.2.1,d.2.2.2.2.2.2.2.2.2.2.2.2.2.2.2.2.2.2.2.2.2.1,0,0,0,ByteArray.empty,d.2.2.2.2.2.2.2.2.2.2.2.2.2.2.2.2.2.2.2.2.2.1,())]:List wu),OU e:=by
 obtain ⟨j1,j2,j3,_⟩:=q.nS.resolve_left fun g=>hj g.1
 have h4:=(zR q).1;obtain ⟨r1,r2⟩:=Q1 d.2.2.2.2.2.2.2.2.2.2.2.2.2.2.2.2.2.2.2.2.2.2.1 d.2.2.2.2.2.2.2.2.2.2.2.2.2.2.2.2.2.2.2.2.1 d.2.2.2.2.2.2.2.2.2.2.2.2.2.2.2.2.2.2.2.2.2.1 d.1 d.2.2.2.2.2.2.2.2.2.2.2.1 hB;have hw:=Q0 d.2.2.2.2.2.2.2.2.2.2.2.2.2.2.2.2.2.2.2.2.2.2.1 d.2.2.2.2.2.2.2.2.2.2.2.2.2.2.2.2.2.2.2.2.1 d.2.2.2.2.2.2.2.2.2.2.2.2.2.2.2.2.2.2.2.2.2.1 d.1;have hp:(Bs d).length≤61:=by
  unfold Bs;rw [List.length_append,oz,List.length_singleton];omega
 have hpe:∀e∈Bs d,OU e:=fun e h=>by
  unfold Bs at h;rcases List.mem_append.1 h with h | h
  ·rw [List.mem_singleton] at h;subst h;exact ⟨h4,Nat.le_trans hw j1.2.1.2,show (0:Nat)≤60 by decide⟩
  ·exact MU h4 (fun x hx=>(r2 x hx).2.2.2) e h
 have hg:(yj d).length≤(d.2.2.2.2.2.2.2.2.2.2.2.2.2.2.2.2.2.2.2.2.2.2.2.1).length+61∧∀e∈yj d,OU e:=by
  unfold yj
  cases decide (0<d.2.2.2.2.2.2.2.2.2.2.2.2.2.2.2.2.2.2.2.1)
  ·exact ⟨Nat.le_add_right _ _,he⟩
  ·refine ⟨by show (d.2.2.2.2.2.2.2.2.2.2.2.2.2.2.2.2.2.2.2.2.2.2.2.1++Bs d).length≤_;rw [List.length_append];omega,fun e h => ?_⟩;have h:e∈d.2.2.2.2.2.2.2.2.2.2.2.2.2.2.2.2.2.2.2.2.2.2.2.1++Bs d:=h;rcases List.mem_append.1 h with h | h
   ·exact he e h
   ·exact hpe e h
 refine ⟨by rw [List.length_append,List.length_singleton];omega,fun e h => ?_⟩;rcases List.mem_append.1 h with h | h
 ·exact hg.2 e h
 ·rw [List.mem_singleton] at h;subst h;exact ⟨j1.2.1.2,j1.2.1.2,show (0:Nat)≤60 by decide⟩
theorem Uu {n:Nat} {d:bY} (h:lI n d) (hn:n≤100) {b:ea} (hb:b.2.2.2.1.length≤1048576) (ht:(bD d b).2=true):lI (n+1) (bD d b).1∧(bD d b).1.1=d.1∧C1 b∧¬d.2.2.2.2.2.2.2.2.2.2.2.2.2.2.2.2.2.2.2.2.1=0∧b.2.1=d.2.2.2.2.2.2.2.2.2.2.2.2.2.2.2.2.2.2.2.2.1:=by
 have hW:=h.small hn;unfold bD at ht ⊢
 cases hc:Et d b
 ·rw [hc] at ht;cases ht
 ·unfold Et at hc;simp only [Bool.and_eq_true,Bool.not_eq_true',decide_eq_true_eq,decide_eq_false_iff_not] at hc;obtain ⟨c1,c2,c3,c4,_⟩:=hc;have hP:=(ME b hb).1 c2;obtain ⟨_,_,_,hB,_,_,_⟩:=xc d b hW hb c1 c3;obtain ⟨j1,j2,j3,j4⟩:=h.q.nS.resolve_left fun g=>c3 g.1
  have hq:lI (n+1) (eW d (d.2.2.2.2.2.2.2.2.2.2.2.2.2.2.2.2.2.2.2.2.2.2.1++[b])):=
   ⟨{
    id:=h.q.id
    xD:=h.q.xD
    dead:=fun e=>by
     have e:d.2.1=true:=e;exact absurd (h.q.dead e).2.2.1 c3
    tS:=h.q.tS
    old:=h.q.old
    nS:=.inr ⟨j1,j2,j3,fun x hx=>by
     have hx:x∈d.2.2.2.2.2.2.2.2.2.2.2.2.2.2.2.2.2.2.2.2.2.2.1++[b]:=hx;rcases List.mem_append.1 hx with hx | hx
     ·exact j4 x hx
     ·rw [List.mem_singleton] at hx;subst hx;exact ⟨hP,c4⟩⟩ },
   by show (d.2.2.2.2.2.2.2.2.2.2.2.2.2.2.2.2.2.2.2.2.2.2.1++[b]).length≤_;rw [List.length_append,List.length_singleton];have:=h.Ut;omega,
   by show (d.2.2.2.2.2.2.2.2.2.2.2.2.2.2.2.2.2.2.2.2.2.2.2.1).length≤_;have:=h.log;omega,h.Y0⟩
  refine ⟨?_,?_,hP,c3,c4⟩
  ·show lI (n+1) (fw d b);unfold fw
   cases lH d.2.2.2.2.2.2.2.2.2.2.2.2.2.2.2.2.2.2.2.2.1 d.2.2.2.2.2.2.2.2.2.2.2.2.2.2.2.2.2.2.2.2.2.1 (d.2.2.2.2.2.2.2.2.2.2.2.2.2.2.2.2.2.2.2.2.2.2.1++[b])
   ·exact hq
   ·obtain ⟨g1,g2⟩:=Gq (d:=eW d (d.2.2.2.2.2.2.2.2.2.2.2.2.2.2.2.2.2.2.2.2.2.2.1++[b])) hq.q c3 hB h.Y0;exact ⟨LA hq.q c3,Nat.zero_le _,by
     show (yj (eW d (d.2.2.2.2.2.2.2.2.2.2.2.2.2.2.2.2.2.2.2.2.2.2.1++[b]))++[_]).length≤_;have:=h.log;have g1:_≤(d.2.2.2.2.2.2.2.2.2.2.2.2.2.2.2.2.2.2.2.2.2.2.2.1).length+62:=g1;omega,g2⟩
  ·show (fw d b).1=d.1;unfold fw
   cases lH d.2.2.2.2.2.2.2.2.2.2.2.2.2.2.2.2.2.2.2.2.1 d.2.2.2.2.2.2.2.2.2.2.2.2.2.2.2.2.2.2.2.2.2.1 (d.2.2.2.2.2.2.2.2.2.2.2.2.2.2.2.2.2.2.2.2.2.2.1++[b])<;>rfl
def jX (d:bY) (r:Int):ea:=(d.1,r,d.2.2.2.2.2.2.2.2.2.2.2.2.2.2.2.2.2.2.2.1,d.2.2.2.2.2.1,())
def lV (d:bY) (c:Int) (ms:dG):bY:=((aE d).1,(aE d).2.1,(aE d).2.2.1,(aE d).2.2.2.1,(aE d).2.2.2.2.1,(aE d).2.2.2.2.2.1,(aE d).2.2.2.2.2.2.1,(aE d).2.2.2.2.2.2.2.1,(aE d).2.2.2.2.2.2.2.2.1,(aE d).2.2.2.2.2.2.2.2.2.1,(aE d).2.2.2.2.2.2.2.2.2.2.1,(aE d).2.2.2.2.2.2.2.2.2.2.2.1,(aE d).2.2.2.2.2.2.2.2.2.2.2.2.1,(aE d).2.2.2.2.2.2.2.2.2.2.2.2.2.1,(aE d).2.2.2.2.2.2.2.2.2.2.2.2.2.2.1,(aE d).2.2.2.2.2.2.2.2.2.2.2.2.2.2.2.1,c,d.2.2.2.2.2.2.2.2.2.2.2.2.2.2.2.2.2.2.2.1,c,ms,[jX d c],d.2.2.2.2.2.2.2.2.2.2.2.2.2.2.2.2.2.2.2.2.2.2.2.1,()) |> fun x=>(d.1,d.2.1,x)
noncomputable def tV (d:bY) (c:Int) (ms:dG):bY:=bif lH c ms [jX d c] then cC (lV d c ms) else lV d c ms
noncomputable def Gr (d:bY) (c:Int) (ms:dG):Bool:=jU d&&(!d.2.1&&(yd c ms&&(decide ((d.1,())∈ms) && !decide (c≤d.2.2.2.2.2.2.2.2.2.2.2.2.2.2.2.2.2.2.1))))
theorem I4 {n:Nat} {d:bY} (h:lI n d) {c:Int} {ms:dG} (hr:lU c ms) (hm:(d.1,())∈ms) (hd:d.2.1=false) (hc:d.2.2.2.2.2.2.2.2.2.2.2.2.2.2.2.2.2.2.1<c):lI (n+1) (lV d c ms)∧C1 (jX d c)∧jm [jX d c]:=by
 have hold:=h.q.old;have amc:=h.q.asM;have UU:fa d.2.2.2.2.2.1 (d.2.2.2.2.2.1).length∧(0<d.2.2.2.2.2.2.2.2.2.2.2.2.2.2.2.2.2.2.2.1∨(d.2.2.2.2.2.1).length=0):=by
  rcases h.q.tS with g | g
  ·have g2:d.2.2.2.2.2.1=[]:=g.2.2.2.1;rw [g2];exact ⟨si,.inr rfl⟩
  ·refine ⟨g.1.items,.inl ?_⟩;have h1:1≤d.2.2.2.1:=g.1.ring.1.1;omega
 have hP:C1 (jX d c):=⟨h.q.id,hr.1,⟨amc,by show d.2.2.2.2.2.2.2.2.2.2.2.2.2.2.2.2.2.2.2.1≤c-1;omega⟩,UU.1,UU.2⟩;have hl:=(dm _ UU.1).1;have Nd:ye (lV d c ms):={
  id:=h.q.id
  xD:=⟨by show 0≤c;have:=hr.1.1;omega,hr.1.2⟩
  dead:=fun e=>by
   have e:d.2.1=true:=e;rw [hd] at e;cases e
  tS:=h.q.tS
  old:=⟨hold.1,by show d.2.2.2.2.2.2.2.2.2.2.2.2.2.2.2.2.2.2.2.1≤c;omega⟩
  nS:=.inr ⟨hr,hm,⟨by show d.2.2.2.2.2.2.2.2.2.2.2.2.2.2.2.2.2.2.2.1+1≤c;omega,Int.le_refl _⟩,fun x hx=>by
   have hx:x∈[jX d c]:=hx;rw [List.mem_singleton] at hx;subst hx;exact ⟨hP,rfl⟩⟩ }
 refine ⟨⟨Nd,by show 1≤n+1;omega,by show (d.2.2.2.2.2.2.2.2.2.2.2.2.2.2.2.2.2.2.2.2.2.2.2.1).length≤_;have:=h.log;omega,h.Y0⟩,hP,?_⟩;exact jm.more (xs:=[]) (by decide) (by show (d.2.2.2.2.2.1).length≤_;omega)
theorem MV {n:Nat} {d:bY} (h:lI n d) {c:Int} {ms:dG} (hr:lU c ms) (hm:(d.1,())∈ms) (hd:d.2.1=false) (hc:d.2.2.2.2.2.2.2.2.2.2.2.2.2.2.2.2.2.2.1<c):lI (n+1) (tV d c ms)∧(tV d c ms).1=d.1:=by
 obtain ⟨g,_,hB⟩:=I4 h hr hm hd hc;unfold tV
 cases lH c ms [jX d c]
 ·exact ⟨g,rfl⟩
 ·have mU:¬c=0:=by have:=hr.1.1;omega
  obtain ⟨g1,g2⟩:=Gq (d:=lV d c ms) g.q mU hB h.Y0;refine ⟨⟨LA g.q mU,Nat.zero_le _,?_,g2⟩,rfl⟩;show (yj (lV d c ms)++[_]).length≤_;have:=h.log;have g1:_≤(d.2.2.2.2.2.2.2.2.2.2.2.2.2.2.2.2.2.2.2.2.2.2.2.1).length+62:=g1;omega
end Go.TM
set_option linter.unusedSimpArgs false
set_option linter.unusedVariables false
namespace Go.TM
open Go
def jr (d:bY) (ms:dG) (b:ea):List ea:=(ms.filter fun m => !decide (m.1=d.1)).map fun _=>b
theorem C4 (d:bY) (ms:dG) (b:ea) {k:Nat} (hk:k<ms.length):jr d (ms.take (k+1)) b=jr d (ms.take k) b++(bif !decide (ms[k].1=d.1) then [b] else []):=by
 unfold jr;rw [List.take_succ_eq_append_getElem hk,List.filter_append,List.map_append,List.filter_cons,List.filter_nil]
 cases decide (ms[k].1=d.1)<;>rfl
theorem LB (d:bY) (ms:dG) (b:ea):(jr d ms b).length≤ms.length:=by
 unfold jr;rw [List.length_map];exact List.length_filter_le _ _
noncomputable def dy (d:bY) (c:Int) (ms:dG):bY×List ea×Bool:=bif Gr d c ms then (tV d c ms,jr d ms (jX d c),true) else (BP,[],false)
theorem Uv (d z o:bY) (b:ea) (c:Int) (ms:dG) (hl:ms.length≤1048576) (hb:b.2.2.2.1.length≤1048576) :
  aJ kG (d.1,d.2.1,d.2.2.1,d.2.2.2.1,d.2.2.2.2.1,d.2.2.2.2.2.1,d.2.2.2.2.2.2.1,d.2.2.2.2.2.2.2.1,d.2.2.2.2.2.2.2.2.1,d.2.2.2.2.2.2.2.2.2.1,d.2.2.2.2.2.2.2.2.2.2.1,d.2.2.2.2.2.2.2.2.2.2.2.1,d.2.2.2.2.2.2.2.2.2.2.2.2.1,d.2.2.2.2.2.2.2.2.2.2.2.2.2.1,d.2.2.2.2.2.2.2.2.2.2.2.2.2.2.1,d.2.2.2.2.2.2.2.2.2.2.2.2.2.2.2.1,d.2.2.2.2.2.2.2.2.2.2.2.2.2.2.2.2.1,d.2.2.2.2.2.2.2.2.2.2.2.2.2.2.2.2.2.1,d.2.2.2.2.2.2.2.2.2.2.2.2.2.2.2.2.2.2.1,d.2.2.2.2.2.2.2.2.2.2.2.2.2.2.2.2.2.2.2.1,d.2.2.2.2.2.2.2.2.2.2.2.2.2.2.2.2.2.2.2.2.1,d.2.2.2.2.2.2.2.2.2.2.2.2.2.2.2.2.2.2.2.2.2.1,d.2.2.2.2.2.2.2.2.2.2.2.2.2.2.2.2.2.2.2.2.2.2.1,d.2.2.2.2.2.2.2.2.2.2.2.2.2.2.2.2.2.2.2.2.2.2.2.1,c,ms,z.1,z.2.1,z.2.2.1,z.2.2.2.1,z.2.2.2.2.1,z.2.2.2.2.2.1,z.2.2.2.2.2.2.1,z.2.2.2.2.2.2.2.1,z.2.2.2.2.2.2.2.2.1,z.2.2.2.2.2.2.2.2.2.1,z.2.2.2.2.2.2.2.2.2.2.1,z.2.2.2.2.2.2.2.2.2.2.2.1,z.2.2.2.2.2.2.2.2.2.2.2.2.1,z.2.2.2.2.2.2.2.2.2.2.2.2.2.1,z.2.2.2.2.2.2.2.2.2.2.2.2.2.2.1,z.2.2.2.2.2.2.2.2.2.2.2.2.2.2.2.1,z.2.2.2.2.2.2.2.2.2.2.2.2.2.2.2.2.1,z.2.2.2.2.2.2.2.2.2.2.2.2.2.2.2.2.2.1,z.2.2.2.2.2.2.2.2.2.2.2.2.2.2.2.2.2.2.1,z.2.2.2.2.2.2.2.2.2.2.2.2.2.2.2.2.2.2.2.1,z.2.2.2.2.2.2.2.2.2.2.2.2.2.2.2.2.2.2.2.2.1,z.2.2.2.2.2.2.2.2.2.2.2.2.2.2.2.2.2.2.2.2.2.1,z.2.2.2.2.2.2.2.2.2.2.2.2.2.2.2.2.2.2.2.2.2.2.1,z.2.2.2.2.2.2.2.2.2.2.2.2.2.2.2.2.2.2.2.2.2.2.2.1,[],o.1,o.2.1,o.2.2.1,o.2.2.2.1,o.2.2.2.2.1,o.2.2.2.2.2.1,o.2.2.2.2.2.2.1,o.2.2.2.2.2.2.2.1,o.2.2.2.2.2.2.2.2.1,o.2.2.2.2.2.2.2.2.2.1,o.2.2.2.2.2.2.2.2.2.2.1,o.2.2.2.2.2.2.2.2.2.2.2.1,o.2.2.2.2.2.2.2.2.2.2.2.2.1,o.2.2.2.2.2.2.2.2.2.2.2.2.2.1,o.2.2.2.2.2.2.2.2.2.2.2.2.2.2.1,o.2.2.2.2.2.2.2.2.2.2.2.2.2.2.2.1,o.2.2.2.2.2.2.2.2.2.2.2.2.2.2.2.2.1,o.2.2.2.2.2.2.2.2.2.2.2.2.2.2.2.2.2.1,o.2.2.2.2.2.2.2.2.2.2.2.2.2.2.2.2.2.2.1,o.2.2.2.2.2.2.2.2.2.2.2.2.2.2.2.2.2.2.2.1,o.2.2.2.2.2.2.2.2.2.2.2.2.2.2.2.2.2.2.2.2.1,o.2.2.2.2.2.2.2.2.2.2.2.2.2.2.2.2.2.2.2.2.2.1,o.2.2.2.2.2.2.2.2.2.2.2.2.2.2.2.2.2.2.2.2.2.2.1,o.2.2.2.2.2.2.2.2.2.2.2.2.2.2.2.2.2.2.2.2.2.2.2.1,b.1,b.2.1,b.2.2.1,b.2.2.2.1,(0:Int),())=some (.inl (z.1,z.2.1,z.2.2.1,z.2.2.2.1,z.2.2.2.2.1,z.2.2.2.2.2.1,z.2.2.2.2.2.2.1,z.2.2.2.2.2.2.2.1,z.2.2.2.2.2.2.2.2.1,z.2.2.2.2.2.2.2.2.2.1,z.2.2.2.2.2.2.2.2.2.2.1,z.2.2.2.2.2.2.2.2.2.2.2.1,z.2.2.2.2.2.2.2.2.2.2.2.2.1,z.2.2.2.2.2.2.2.2.2.2.2.2.2.1,z.2.2.2.2.2.2.2.2.2.2.2.2.2.2.1,z.2.2.2.2.2.2.2.2.2.2.2.2.2.2.2.1,z.2.2.2.2.2.2.2.2.2.2.2.2.2.2.2.2.1,z.2.2.2.2.2.2.2.2.2.2.2.2.2.2.2.2.2.1,z.2.2.2.2.2.2.2.2.2.2.2.2.2.2.2.2.2.2.1,z.2.2.2.2.2.2.2.2.2.2.2.2.2.2.2.2.2.2.2.1,z.2.2.2.2.2.2.2.2.2.2.2.2.2.2.2.2.2.2.2.2.1,z.2.2.2.2.2.2.2.2.2.2.2.2.2.2.2.2.2.2.2.2.2.1,z.2.2.2.2.2.2.2.2.2.2.2.2.2.2.2.2.2.2.2.2.2.2.1,z.2.2.2.2.2.2.2.2.2.2.2.2.2.2.2.2.2.2.2.2.2.2.2.1,jr d ms b,o.1,o.2.1,o.2.2.1,o.2.2.2.1,o.2.2.2.2.1,o.2.2.2.2.2.1,o.2.2.2.2.2.2.1,o.2.2.2.2.2.2.2.1,o.2.2.2.2.2.2.2.2.1,o.2.2.2.2.2.2.2.2.2.1,o.2.2.2.2.2.2.2.2.2.2.1,o.2.2.2.2.2.2.2.2.2.2.2.1,o.2.2.2.2.2.2.2.2.2.2.2.2.1,o.2.2.2.2.2.2.2.2.2.2.2.2.2.1,o.2.2.2.2.2.2.2.2.2.2.2.2.2.2.1,o.2.2.2.2.2.2.2.2.2.2.2.2.2.2.2.1,o.2.2.2.2.2.2.2.2.2.2.2.2.2.2.2.2.1,o.2.2.2.2.2.2.2.2.2.2.2.2.2.2.2.2.2.1,o.2.2.2.2.2.2.2.2.2.2.2.2.2.2.2.2.2.2.1,o.2.2.2.2.2.2.2.2.2.2.2.2.2.2.2.2.2.2.2.1,o.2.2.2.2.2.2.2.2.2.2.2.2.2.2.2.2.2.2.2.2.1,o.2.2.2.2.2.2.2.2.2.2.2.2.2.2.2.2.2.2.2.2.2.1,o.2.2.2.2.2.2.2.2.2.2.2.2.2.2.2.2.2.2.2.2.2.2.1,o.2.2.2.2.2.2.2.2.2.2.2.2.2.2.2.2.2.2.2.2.2.2.2.1,())):=by
 have l1:=ck (round:=kG) (e:=.inl (z.1,z.2.1,z.2.2.1,z.2.2.2.1,z.2.2.2.2.1,z.2.2.2.2.2.1,z.2.2.2.2.2.2.1,z.2.2.2.2.2.2.2.1,z.2.2.2.2.2.2.2.2.1,z.2.2.2.2.2.2.2.2.2.1,z.2.2.2.2.2.2.2.2.2.2.1,z.2.2.2.2.2.2.2.2.2.2.2.1,z.2.2.2.2.2.2.2.2.2.2.2.2.1,z.2.2.2.2.2.2.2.2.2.2.2.2.2.1,z.2.2.2.2.2.2.2.2.2.2.2.2.2.2.1,z.2.2.2.2.2.2.2.2.2.2.2.2.2.2.2.1,z.2.2.2.2.2.2.2.2.2.2.2.2.2.2.2.2.1,z.2.2.2.2.2.2.2.2.2.2.2.2.2.2.2.2.2.1,z.2.2.2.2.2.2.2.2.2.2.2.2.2.2.2.2.2.2.1,z.2.2.2.2.2.2.2.2.2.2.2.2.2.2.2.2.2.2.2.1,z.2.2.2.2.2.2.2.2.2.2.2.2.2.2.2.2.2.2.2.2.1,z.2.2.2.2.2.2.2.2.2.2.2.2.2.2.2.2.2.2.2.2.2.1,z.2.2.2.2.2.2.2.2.2.2.2.2.2.2.2.2.2.2.2.2.2.2.1,z.2.2.2.2.2.2.2.2.2.2.2.2.2.2.2.2.2.2.2.2.2.2.2.1,jr d ms b,o.1,o.2.1,o.2.2.1,o.2.2.2.1,o.2.2.2.2.1,o.2.2.2.2.2.1,o.2.2.2.2.2.2.1,o.2.2.2.2.2.2.2.1,o.2.2.2.2.2.2.2.2.1,o.2.2.2.2.2.2.2.2.2.1,o.2.2.2.2.2.2.2.2.2.2.1,o.2.2.2.2.2.2.2.2.2.2.2.1,o.2.2.2.2.2.2.2.2.2.2.2.2.1,o.2.2.2.2.2.2.2.2.2.2.2.2.2.1,o.2.2.2.2.2.2.2.2.2.2.2.2.2.2.1,o.2.2.2.2.2.2.2.2.2.2.2.2.2.2.2.1,o.2.2.2.2.2.2.2.2.2.2.2.2.2.2.2.2.1,o.2.2.2.2.2.2.2.2.2.2.2.2.2.2.2.2.2.1,o.2.2.2.2.2.2.2.2.2.2.2.2.2.2.2.2.2.2.1,o.2.2.2.2.2.2.2.2.2.2.2.2.2.2.2.2.2.2.2.1,o.2.2.2.2.2.2.2.2.2.2.2.2.2.2.2.2.2.2.2.2.1,o.2.2.2.2.2.2.2.2.2.2.2.2.2.2.2.2.2.2.2.2.2.1,o.2.2.2.2.2.2.2.2.2.2.2.2.2.2.2.2.2.2.2.2.2.2.1,o.2.2.2.2.2.2.2.2.2.2.2.2.2.2.2.2.2.2.2.2.2.2.2.1,())) ms.length (fun k=>(d.1,d.2.1,d.2.2.1,d.2.2.2.1,d.2.2.2.2.1,d.2.2.2.2.2.1,d.2.2.2.2.2.2.1,d.2.2.2.2.2.2.2.1,d.2.2.2.2.2.2.2.2.1,d.2.2.2.2.2.2.2.2.2.1,d.2.2.2.2.2.2.2.2.2.2.1,d.2.2.2.2.2.2.2.2.2.2.2.1,d.2.2.2.2.2.2.2.2.2.2.2.2.1,d.2.2.2.2.2.2.2.2.2.2.2.2.2.1,d.2.2.2.2.2.2.2.2.2.2.2.2.2.2.1,d.2.2.2.2.2.2.2.2.2.2.2.2.2.2.2.1,d.2.2.2.2.2.2.2.2.2.2.2.2.2.2.2.2.1,d.2.2.2.2.2.2.2.2.2.2.2.2.2.2.2.2.2.1,d.2.2.2.2.2.2.2.2.2.2.2.2.2.2.2.2.2.2.1,d.2.2.2.2.2.2.2.2.2.2.2.2.2.2.2.2.2.2.2.1,d.2.2.2.2.2.2.2.2.2.2.2.2.2.2.2.2.2.2.2.2.1,d.2.2.2.2.2.2.2.2.2.2.2.2.2.2.2.2.2.2.2.2.2.1,d.2.2.2.2.2.2.2.2.2.2.2.2.2.2.2.2.2.2.2.2.2.2.1,d.2.2.2.2.2.2.2.2.2.2.2.2.2.2.2.2.2.2.2.2.2.2.2.1,c,ms,z.1,z.2.1,z.2.2.1,z.2.2.2.1,z.2.2.2.2.1,z.2.2.2.2.2.1,z.2.2.2.2.2.2.1,z.2.2.2.2.2.2.2.1,z.2.2.2.2.2.2.2.2.1,z.2.2.2.2.2.2.2.2.2.1,z.2.2.2.2.2.2.2.2.2.2.1,z.2.2.2.2.2.2.2.2.2.2.2.1,z.2.2.2.2.2.2.2.2.2.2.2.2.1,z.2.2.2.2.2.2.2.2.2.2.2.2.2.1,z.2.2.2.2.2.2.2.2.2.2.2.2.2.2.1,z.2.2.2.2.2.2.2.2.2.2.2.2.2.2.2.1,z.2.2.2.2.2.2.2.2.2.2.2.2.2.2.2.2.1,z.2.2.2.2.2.2.2.2.2.2.2.2.2.2.2.2.2.1,z.2.2.2.2.2.2.2.2.2.2.2.2.2.2.2.2.2.2.1,z.2.2.2.2.2.2.2.2.2.2.2.2.2.2.2.2.2.2.2.1,z.2.2.2.2.2.2.2.2.2.2.2.2.2.2.2.2.2.2.2.2.1,z.2.2.2.2.2.2.2.2.2.2.2.2.2.2.2.2.2.2.2.2.2.1,z.2.2.2.2.2.2.2.2.2.2.2.2.2.2.2.2.2.2.2.2.2.2.1,z.2.2.2.2.2.2.2.2.2.2.2.2.2.2.2.2.2.2.2.2.2.2.2.1,jr d (ms.take k) b,o.1,o.2.1,o.2.2.1,o.2.2.2.1,o.2.2.2.2.1,o.2.2.2.2.2.1,o.2.2.2.2.2.2.1,o.2.2.2.2.2.2.2.1,o.2.2.2.2.2.2.2.2.1,o.2.2.2.2.2.2.2.2.2.1,o.2.2.2.2.2.2.2.2.2.2.1,o.2.2.2.2.2.2.2.2.2.2.2.1,o.2.2.2.2.2.2.2.2.2.2.2.2.1,o.2.2.2.2.2.2.2.2.2.2.2.2.2.1,o.2.2.2.2.2.2.2.2.2.2.2.2.2.2.1,o.2.2.2.2.2.2.2.2.2.2.2.2.2.2.2.1,o.2.2.2.2.2.2.2.2.2.2.2.2.2.2.2.2.1,o.2.2.2.2.2.2.2.2.2.2.2.2.2.2.2.2.2.1,o.2.2.2.2.2.2.2.2.2.2.2.2.2.2.2.2.2.2.1,o.2.2.2.2.2.2.2.2.2.2.2.2.2.2.2.2.2.2.2.1,o.2.2.2.2.2.2.2.2.2.2.2.2.2.2.2.2.2.2.2.2.1,o.2.2.2.2.2.2.2.2.2.2.2.2.2.2.2.2.2.2.2.2.2.1,o.2.2.2.2.2.2.2.2.2.2.2.2.2.2.2.2.2.2.2.2.2.2.1,o.2.2.2.2.2.2.2.2.2.2.2.2.2.2.2.2.2.2.2.2.2.2.2.1,b.1,b.2.1,b.2.2.1,b.2.2.2.1,((k:Nat):Int),())) (by
  simp only [kG,az,zl,aA,aN,cond_false,List.take_length]) (fun k hk=>by
  have ht:=LB d (ms.take k) b;rw [List.length_take] at ht;simp only [kG,az,zl,aA,aF hk,ax,cond_true,aG,List.getElem?_eq_getElem hk,Option.bind_some,(jn b hb).1,aS (show ((jr d (ms.take k) b).length+1)*48≤lim by unfold lim;omega),aM (show k<4611686018427387904 by omega),C4 d ms b hk]
  cases decide (ms[k].1=d.1)
  ·rfl
  ·simp only [Bool.not_true,cond_false,List.append_nil])
 exact l1
theorem YA {n:Nat} {d:bY} (h:lI n d) (hn:n≤99) (c:Int) (ms:dG) (hl:ms.length≤1048576):rR d.1 d.2.1 d.2.2.1 d.2.2.2.1 d.2.2.2.2.1 d.2.2.2.2.2.1 d.2.2.2.2.2.2.1 d.2.2.2.2.2.2.2.1 d.2.2.2.2.2.2.2.2.1 d.2.2.2.2.2.2.2.2.2.1 d.2.2.2.2.2.2.2.2.2.2.1 d.2.2.2.2.2.2.2.2.2.2.2.1 d.2.2.2.2.2.2.2.2.2.2.2.2.1 d.2.2.2.2.2.2.2.2.2.2.2.2.2.1 d.2.2.2.2.2.2.2.2.2.2.2.2.2.2.1 d.2.2.2.2.2.2.2.2.2.2.2.2.2.2.2.1 d.2.2.2.2.2.2.2.2.2.2.2.2.2.2.2.2.1 d.2.2.2.2.2.2.2.2.2.2.2.2.2.2.2.2.2.1 d.2.2.2.2.2.2.2.2.2.2.2.2.2.2.2.2.2.2.1 d.2.2.2.2.2.2.2.2.2.2.2.2.2.2.2.2.2.2.2.1 d.2.2.2.2.2.2.2.2.2.2.2.2.2.2.2.2.2.2.2.2.1 d.2.2.2.2.2.2.2.2.2.2.2.2.2.2.2.2.2.2.2.2.2.1 d.2.2.2.2.2.2.2.2.2.2.2.2.2.2.2.2.2.2.2.2.2.2.1 d.2.2.2.2.2.2.2.2.2.2.2.2.2.2.2.2.2.2.2.2.2.2.2.1 c ms=some ((dy d c ms).1.1,(dy d c ms).1.2.1,(dy d c ms).1.2.2.1,(dy d c ms).1.2.2.2.1,(dy d c ms).1.2.2.2.2.1,(dy d c ms).1.2.2.2.2.2.1,(dy d c ms).1.2.2.2.2.2.2.1,(dy d c ms).1.2.2.2.2.2.2.2.1,(dy d c ms).1.2.2.2.2.2.2.2.2.1,(dy d c ms).1.2.2.2.2.2.2.2.2.2.1,(dy d c ms).1.2.2.2.2.2.2.2.2.2.2.1,(dy d c ms).1.2.2.2.2.2.2.2.2.2.2.2.1,(dy d c ms).1.2.2.2.2.2.2.2.2.2.2.2.2.1,(dy d c ms).1.2.2.2.2.2.2.2.2.2.2.2.2.2.1,(dy d c ms).1.2.2.2.2.2.2.2.2.2.2.2.2.2.2.1,(dy d c ms).1.2.2.2.2.2.2.2.2.2.2.2.2.2.2.2.1,(dy d c ms).1.2.2.2.2.2.2.2.2.2.2.2.2.2.2.2.2.1,(dy d c ms).1.2.2.2.2.2.2.2.2.2.2.2.2.2.2.2.2.2.1,(dy d c ms).1.2.2.2.2.2.2.2.2.2.2.2.2.2.2.2.2.2.2.1,(dy d c ms).1.2.2.2.2.2.2.2.2.2.2.2.2.2.2.2.2.2.2.2.1,(dy d c ms).1.2.2.2.2.2.2.2.2.2.2.2.2.2.2.2.2.2.2.2.2.1,(dy d c ms).1.2.2.2.2.2.2.2.2.2.2.2.2.2.2.2.2.2.2.2.2.2.1,(dy d c ms).1.2.2.2.2.2.2.2.2.2.2.2.2.2.2.2.2.2.2.2.2.2.2.1,(dy d c ms).1.2.2.2.2.2.2.2.2.2.2.2.2.2.2.2.2.2.2.2.2.2.2.2.1,(dy d c ms).2.1,(dy d c ms).2.2,()):=by
 have hW:=h.small (by omega);obtain ⟨k1,_,k3⟩:=m7 d hW;obtain ⟨r1,_,r3⟩:=qU c ms hl;have i1:=zH ms d.1 hl;have p1:=(uQ d hW).1;have cr:=mR c ms hl;unfold rR dy Gr;delta az cS bA;simp only [k1,r1,i1,p1,cr,Option.bind_some]
 cases h1:jU d
 ·rfl
 cases h2:d.2.1
 case true=>rfl
 cases h3:yd c ms
 ·rfl
 cases h4:decide ((d.1,())∈ms)
 ·rfl
 cases h5:decide (c≤d.2.2.2.2.2.2.2.2.2.2.2.2.2.2.2.2.2.2.1)
 case true=>rfl
 have hr:=r3.1 h3;have hm:=of_decide_eq_true h4;have hc:d.2.2.2.2.2.2.2.2.2.2.2.2.2.2.2.2.2.2.1<c:=by have:=of_decide_eq_false h5;omega
 obtain ⟨g,hP,hB⟩:=I4 h hr hm h2 hc;obtain ⟨gm,_⟩:=MV h hr hm h2 hc;have pm:=(uQ (tV d c ms) (gm.small (by omega))).1;have UU:(d.2.2.2.2.2.1).length≤60:=(yk hP).1;have l1:=Uv d BP (lV d c ms) (jX d c) c ms hl (by show (d.2.2.2.2.2.1).length≤_;omega);have l1:aJ kG (d.1,d.2.1,d.2.2.1,d.2.2.2.1,d.2.2.2.2.1,d.2.2.2.2.2.1,d.2.2.2.2.2.2.1,d.2.2.2.2.2.2.2.1,d.2.2.2.2.2.2.2.2.1,d.2.2.2.2.2.2.2.2.2.1,d.2.2.2.2.2.2.2.2.2.2.1,d.2.2.2.2.2.2.2.2.2.2.2.1,d.2.2.2.2.2.2.2.2.2.2.2.2.1,d.2.2.2.2.2.2.2.2.2.2.2.2.2.1,d.2.2.2.2.2.2.2.2.2.2.2.2.2.2.1,d.2.2.2.2.2.2.2.2.2.2.2.2.2.2.2.1,d.2.2.2.2.2.2.2.2.2.2.2.2.2.2.2.2.1,d.2.2.2.2.2.2.2.2.2.2.2.2.2.2.2.2.2.1,d.2.2.2.2.2.2.2.2.2.2.2.2.2.2.2.2.2.2.1,d.2.2.2.2.2.2.2.2.2.2.2.2.2.2.2.2.2.2.2.1,d.2.2.2.2.2.2.2.2.2.2.2.2.2.2.2.2.2.2.2.2.1,d.2.2.2.2.2.2.2.2.2.2.2.2.2.2.2.2.2.2.2.2.2.1,d.2.2.2.2.2.2.2.2.2.2.2.2.2.2.2.2.2.2.2.2.2.2.1,d.2.2.2.2.2.2.2.2.2.2.2.2.2.2.2.2.2.2.2.2.2.2.2.1,c,ms,0,false,0,0,[],[],[],[],0,0,0,0,0,0,0,0,0,[],0,0,0,[],[],[],[],d.1,d.2.1,d.2.2.1,d.2.2.2.1,d.2.2.2.2.1,d.2.2.2.2.2.1,d.2.2.2.2.2.2.1,d.2.2.2.2.2.2.2.1,d.2.2.2.2.2.2.2.2.1,d.2.2.2.2.2.2.2.2.2.1,d.2.2.2.2.2.2.2.2.2.2.1,d.2.2.2.2.2.2.2.2.2.2.2.1,d.2.2.2.2.2.2.2.2.2.2.2.2.1,d.2.2.2.2.2.2.2.2.2.2.2.2.2.1,d.2.2.2.2.2.2.2.2.2.2.2.2.2.2.1,d.2.2.2.2.2.2.2.2.2.2.2.2.2.2.2.1,d.2.2.2.2.2.2.2.2.2.2.2.2.2.2.2.2.1,d.2.2.2.2.2.2.2.2.2.2.2.2.2.2.2.2.2.1,c,d.2.2.2.2.2.2.2.2.2.2.2.2.2.2.2.2.2.2.2.1,c,ms,[(d.1,c,d.2.2.2.2.2.2.2.2.2.2.2.2.2.2.2.2.2.2.2.1,d.2.2.2.2.2.1,())],d.2.2.2.2.2.2.2.2.2.2.2.2.2.2.2.2.2.2.2.2.2.2.2.1,d.1,c,d.2.2.2.2.2.2.2.2.2.2.2.2.2.2.2.2.2.2.2.1,d.2.2.2.2.2.1,(0:Int),())=_:=l1;have ah:=(Ek c ms [jX d c] hl hB).1;have hg:(d.2.2.2.2.2.2.2.2.2.2.2.2.2.2.2.2.2.2.2.2.2.2.2.1).length≤1048576:=by have:=h.log;omega
 have iv:=(uT (lV d c ms) hr hm hB (by show (d.2.2.2.2.1).length≤_;have:=(zR h.q).1;omega) hg).1;rw [h2] at l1;obtain ⟨o,ho⟩:∃o,o=lV d c ms:=⟨_,rfl⟩;have ah:kE o.2.2.2.2.2.2.2.2.2.2.2.2.2.2.2.2.2.2.2.2.1 o.2.2.2.2.2.2.2.2.2.2.2.2.2.2.2.2.2.2.2.2.2.1 o.2.2.2.2.2.2.2.2.2.2.2.2.2.2.2.2.2.2.2.2.2.2.1=some (lH c ms [jX d c],()):=by rw [ho];exact ah
 rw [←ho] at iv l1;unfold tV at pm ⊢;rw [←ho] at pm ⊢;simp only [Bool.not_true,Bool.not_false,Bool.and_self,cond_false,cond_true,List.nil_append,aS (show (0+(d.2.2.2.2.2.1).length)*40≤lim by unfold lim;omega),l1,bZ,Option.bind_some,ah]
 cases hh:lH c ms [jX d c]
 ·rw [hh] at pm;simp only [cond_false] at pm ⊢;rw [pm];rfl
 ·rw [hh] at pm;simp only [cond_true] at pm ⊢;rw [iv];simp only [Option.bind_some];rw [pm];rfl
end Go.TM
set_option linter.unusedSimpArgs false
set_option linter.unusedVariables false
namespace Go.TM
open Go
theorem FF {ms:dG} (h:OC ms ms.length) {i j:Nat} (hj:j<ms.length) (VS:i<j):(ms[i]'(by omega)).1<ms[j].1:=by
 have key:∀(d i:Nat) (hi:i+d+1<ms.length),ms[i].1<ms[i+d+1].1:=by
  intro d
  induction d with
  |zero=>intro i hi;exact (h (i+1) hi hi).2 (by omega)
  |succ d ih=>
   intro i hi;have h1:=ih i (by omega);have h2:=(h (i+(d+1)+1) hi hi).2 (by omega);have e:i+(d+1)+1-1=i+d+1:=by omega
   simp only [e] at h2;omega
 have:=key (j-i-1) i (by omega);simpa [show i+(j-i-1)+1=j by omega] using this
theorem filter_one {ms:dG} (h:OC ms ms.length) {id:Int} (hm:(id,())∈ms):(ms.filter fun m => !decide (m.1=id)).length=ms.length-1:=by
 obtain ⟨k,hk,e⟩:=List.mem_iff_getElem.1 hm;have e:ms[k].1=id:=congrArg Prod.fst e;have h1:(ms.take k).filter (fun m => !decide (m.1=id))=ms.take k:=List.filter_eq_self.2 fun x hx=>by
  obtain ⟨i,hi,rfl⟩:=List.mem_iff_getElem.1 hx;rw [List.length_take] at hi;rw [List.getElem_take];have:=FF h hk (show i<k by omega);rw [decide_eq_false (show ¬(ms[i]'(by omega)).1=id by omega)];rfl
 have h2:(ms.drop (k+1)).filter (fun m => !decide (m.1=id))=ms.drop (k+1):=List.filter_eq_self.2 fun x hx=>by
  obtain ⟨i,hi,rfl⟩:=List.mem_iff_getElem.1 hx;rw [List.length_drop] at hi;rw [List.getElem_drop];have:=FF h (show k+1+i<ms.length by omega) (show k<k+1+i by omega);rw [decide_eq_false (show ¬(ms[k+1+i]'(by omega)).1=id by omega)];rfl
 have h3:ms=ms.take k++ms[k]::ms.drop (k+1):=by rw [←List.drop_eq_getElem_cons hk,List.take_append_drop]
 have h4:ms.filter (fun m => !decide (m.1=id))=ms.take k++ms.drop (k+1):=by
  rw [h3,List.filter_append,List.filter_cons,decide_eq_true e,←h3];simp only [Bool.not_true,Bool.false_eq_true,if_false];rw [h1,h2]
 rw [h4,List.length_append,List.length_take,List.length_drop];omega
theorem LC {d:bY} {ms:dG} (h:OC ms ms.length) (hm:(d.1,())∈ms) (b:ea):jr d ms b=List.replicate (ms.length-1) b:=by
 unfold jr;rw [List.map_const',filter_one h hm]
theorem Q2 (z o:bY) (b:ea) (c:Int) (ms:dG) (m:Nat) (hl:m≤1048576) (hb:b.2.2.2.1.length≤1048576) :
  aJ kH (c,ms,z.1,z.2.1,z.2.2.1,z.2.2.2.1,z.2.2.2.2.1,z.2.2.2.2.2.1,z.2.2.2.2.2.2.1,z.2.2.2.2.2.2.2.1,z.2.2.2.2.2.2.2.2.1,z.2.2.2.2.2.2.2.2.2.1,z.2.2.2.2.2.2.2.2.2.2.1,z.2.2.2.2.2.2.2.2.2.2.2.1,z.2.2.2.2.2.2.2.2.2.2.2.2.1,z.2.2.2.2.2.2.2.2.2.2.2.2.2.1,z.2.2.2.2.2.2.2.2.2.2.2.2.2.2.1,z.2.2.2.2.2.2.2.2.2.2.2.2.2.2.2.1,z.2.2.2.2.2.2.2.2.2.2.2.2.2.2.2.2.1,z.2.2.2.2.2.2.2.2.2.2.2.2.2.2.2.2.2.1,z.2.2.2.2.2.2.2.2.2.2.2.2.2.2.2.2.2.2.1,z.2.2.2.2.2.2.2.2.2.2.2.2.2.2.2.2.2.2.2.1,z.2.2.2.2.2.2.2.2.2.2.2.2.2.2.2.2.2.2.2.2.1,z.2.2.2.2.2.2.2.2.2.2.2.2.2.2.2.2.2.2.2.2.2.1,z.2.2.2.2.2.2.2.2.2.2.2.2.2.2.2.2.2.2.2.2.2.2.1,z.2.2.2.2.2.2.2.2.2.2.2.2.2.2.2.2.2.2.2.2.2.2.2.1,o.1,o.2.1,o.2.2.1,o.2.2.2.1,o.2.2.2.2.1,o.2.2.2.2.2.1,o.2.2.2.2.2.2.1,o.2.2.2.2.2.2.2.1,o.2.2.2.2.2.2.2.2.1,o.2.2.2.2.2.2.2.2.2.1,o.2.2.2.2.2.2.2.2.2.2.1,o.2.2.2.2.2.2.2.2.2.2.2.1,o.2.2.2.2.2.2.2.2.2.2.2.2.1,o.2.2.2.2.2.2.2.2.2.2.2.2.2.1,o.2.2.2.2.2.2.2.2.2.2.2.2.2.2.1,o.2.2.2.2.2.2.2.2.2.2.2.2.2.2.2.1,o.2.2.2.2.2.2.2.2.2.2.2.2.2.2.2.2.1,o.2.2.2.2.2.2.2.2.2.2.2.2.2.2.2.2.2.1,o.2.2.2.2.2.2.2.2.2.2.2.2.2.2.2.2.2.2.1,o.2.2.2.2.2.2.2.2.2.2.2.2.2.2.2.2.2.2.2.1,o.2.2.2.2.2.2.2.2.2.2.2.2.2.2.2.2.2.2.2.2.1,o.2.2.2.2.2.2.2.2.2.2.2.2.2.2.2.2.2.2.2.2.2.1,o.2.2.2.2.2.2.2.2.2.2.2.2.2.2.2.2.2.2.2.2.2.2.1,o.2.2.2.2.2.2.2.2.2.2.2.2.2.2.2.2.2.2.2.2.2.2.2.1,b.1,b.2.1,b.2.2.1,b.2.2.2.1,[],((m:Nat):Int),(0:Int),())=some (.inl (c,ms,z.1,z.2.1,z.2.2.1,z.2.2.2.1,z.2.2.2.2.1,z.2.2.2.2.2.1,z.2.2.2.2.2.2.1,z.2.2.2.2.2.2.2.1,z.2.2.2.2.2.2.2.2.1,z.2.2.2.2.2.2.2.2.2.1,z.2.2.2.2.2.2.2.2.2.2.1,z.2.2.2.2.2.2.2.2.2.2.2.1,z.2.2.2.2.2.2.2.2.2.2.2.2.1,z.2.2.2.2.2.2.2.2.2.2.2.2.2.1,z.2.2.2.2.2.2.2.2.2.2.2.2.2.2.1,z.2.2.2.2.2.2.2.2.2.2.2.2.2.2.2.1,z.2.2.2.2.2.2.2.2.2.2.2.2.2.2.2.2.1,z.2.2.2.2.2.2.2.2.2.2.2.2.2.2.2.2.2.1,z.2.2.2.2.2.2.2.2.2.2.2.2.2.2.2.2.2.2.1,z.2.2.2.2.2.2.2.2.2.2.2.2.2.2.2.2.2.2.2.1,z.2.2.2.2.2.2.2.2.2.2.2.2.2.2.2.2.2.2.2.2.1,z.2.2.2.2.2.2.2.2.2.2.2.2.2.2.2.2.2.2.2.2.2.1,z.2.2.2.2.2.2.2.2.2.2.2.2.2.2.2.2.2.2.2.2.2.2.1,z.2.2.2.2.2.2.2.2.2.2.2.2.2.2.2.2.2.2.2.2.2.2.2.1,o.1,o.2.1,o.2.2.1,o.2.2.2.1,o.2.2.2.2.1,o.2.2.2.2.2.1,o.2.2.2.2.2.2.1,o.2.2.2.2.2.2.2.1,o.2.2.2.2.2.2.2.2.1,o.2.2.2.2.2.2.2.2.2.1,o.2.2.2.2.2.2.2.2.2.2.1,o.2.2.2.2.2.2.2.2.2.2.2.1,o.2.2.2.2.2.2.2.2.2.2.2.2.1,o.2.2.2.2.2.2.2.2.2.2.2.2.2.1,o.2.2.2.2.2.2.2.2.2.2.2.2.2.2.1,o.2.2.2.2.2.2.2.2.2.2.2.2.2.2.2.1,o.2.2.2.2.2.2.2.2.2.2.2.2.2.2.2.2.1,o.2.2.2.2.2.2.2.2.2.2.2.2.2.2.2.2.2.1,o.2.2.2.2.2.2.2.2.2.2.2.2.2.2.2.2.2.2.1,o.2.2.2.2.2.2.2.2.2.2.2.2.2.2.2.2.2.2.2.1,o.2.2.2.2.2.2.2.2.2.2.2.2.2.2.2.2.2.2.2.2.1,o.2.2.2.2.2.2.2.2.2.2.2.2.2.2.2.2.2.2.2.2.2.1,o.2.2.2.2.2.2.2.2.2.2.2.2.2.2.2.2.2.2.2.2.2.2.1,o.2.2.2.2.2.2.2.2.2.2.2.2.2.2.2.2.2.2.2.2.2.2.2.1,List.replicate m b,())):=by
 have l1:=ck (round:=kH) (e:=.inl (c,ms,z.1,z.2.1,z.2.2.1,z.2.2.2.1,z.2.2.2.2.1,z.2.2.2.2.2.1,z.2.2.2.2.2.2.1,z.2.2.2.2.2.2.2.1,z.2.2.2.2.2.2.2.2.1,z.2.2.2.2.2.2.2.2.2.1,z.2.2.2.2.2.2.2.2.2.2.1,z.2.2.2.2.2.2.2.2.2.2.2.1,z.2.2.2.2.2.2.2.2.2.2.2.2.1,z.2.2.2.2.2.2.2.2.2.2.2.2.2.1,z.2.2.2.2.2.2.2.2.2.2.2.2.2.2.1,z.2.2.2.2.2.2.2.2.2.2.2.2.2.2.2.1,z.2.2.2.2.2.2.2.2.2.2.2.2.2.2.2.2.1,z.2.2.2.2.2.2.2.2.2.2.2.2.2.2.2.2.2.1,z.2.2.2.2.2.2.2.2.2.2.2.2.2.2.2.2.2.2.1,z.2.2.2.2.2.2.2.2.2.2.2.2.2.2.2.2.2.2.2.1,z.2.2.2.2.2.2.2.2.2.2.2.2.2.2.2.2.2.2.2.2.1,z.2.2.2.2.2.2.2.2.2.2.2.2.2.2.2.2.2.2.2.2.2.1,z.2.2.2.2.2.2.2.2.2.2.2.2.2.2.2.2.2.2.2.2.2.2.1,z.2.2.2.2.2.2.2.2.2.2.2.2.2.2.2.2.2.2.2.2.2.2.2.1,o.1,o.2.1,o.2.2.1,o.2.2.2.1,o.2.2.2.2.1,o.2.2.2.2.2.1,o.2.2.2.2.2.2.1,o.2.2.2.2.2.2.2.1,o.2.2.2.2.2.2.2.2.1,o.2.2.2.2.2.2.2.2.2.1,o.2.2.2.2.2.2.2.2.2.2.1,o.2.2.2.2.2.2.2.2.2.2.2.1,o.2.2.2.2.2.2.2.2.2.2.2.2.1,o.2.2.2.2.2.2.2.2.2.2.2.2.2.1,o.2.2.2.2.2.2.2.2.2.2.2.2.2.2.1,o.2.2.2.2.2.2.2.2.2.2.2.2.2.2.2.1,o.2.2.2.2.2.2.2.2.2.2.2.2.2.2.2.2.1,o.2.2.2.2.2.2.2.2.2.2.2.2.2.2.2.2.2.1,o.2.2.2.2.2.2.2.2.2.2.2.2.2.2.2.2.2.2.1,o.2.2.2.2.2.2.2.2.2.2.2.2.2.2.2.2.2.2.2.1,o.2.2.2.2.2.2.2.2.2.2.2.2.2.2.2.2.2.2.2.2.1,o.2.2.2.2.2.2.2.2.2.2.2.2.2.2.2.2.2.2.2.2.2.1,o.2.2.2.2.2.2.2.2.2.2.2.2.2.2.2.2.2.2.2.2.2.2.1,o.2.2.2.2.2.2.2.2.2.2.2.2.2.2.2.2.2.2.2.2.2.2.2.1,List.replicate m b,())) m (fun k=>(c,ms,z.1,z.2.1,z.2.2.1,z.2.2.2.1,z.2.2.2.2.1,z.2.2.2.2.2.1,z.2.2.2.2.2.2.1,z.2.2.2.2.2.2.2.1,z.2.2.2.2.2.2.2.2.1,z.2.2.2.2.2.2.2.2.2.1,z.2.2.2.2.2.2.2.2.2.2.1,z.2.2.2.2.2.2.2.2.2.2.2.1,z.2.2.2.2.2.2.2.2.2.2.2.2.1,z.2.2.2.2.2.2.2.2.2.2.2.2.2.1,z.2.2.2.2.2.2.2.2.2.2.2.2.2.2.1,z.2.2.2.2.2.2.2.2.2.2.2.2.2.2.2.1,z.2.2.2.2.2.2.2.2.2.2.2.2.2.2.2.2.1,z.2.2.2.2.2.2.2.2.2.2.2.2.2.2.2.2.2.1,z.2.2.2.2.2.2.2.2.2.2.2.2.2.2.2.2.2.2.1,z.2.2.2.2.2.2.2.2.2.2.2.2.2.2.2.2.2.2.2.1,z.2.2.2.2.2.2.2.2.2.2.2.2.2.2.2.2.2.2.2.2.1,z.2.2.2.2.2.2.2.2.2.2.2.2.2.2.2.2.2.2.2.2.2.1,z.2.2.2.2.2.2.2.2.2.2.2.2.2.2.2.2.2.2.2.2.2.2.1,z.2.2.2.2.2.2.2.2.2.2.2.2.2.2.2.2.2.2.2.2.2.2.2.1,o.1,o.2.1,o.2.2.1,o.2.2.2.1,o.2.2.2.2.1,o.2.2.2.2.2.1,o.2.2.2.2.2.2.1,o.2.2.2.2.2.2.2.1,o.2.2.2.2.2.2.2.2.1,o.2.2.2.2.2.2.2.2.2.1,o.2.2.2.2.2.2.2.2.2.2.1,o.2.2.2.2.2.2.2.2.2.2.2.1,o.2.2.2.2.2.2.2.2.2.2.2.2.1,o.2.2.2.2.2.2.2.2.2.2.2.2.2.1,o.2.2.2.2.2.2.2.2.2.2.2.2.2.2.1,o.2.2.2.2.2.2.2.2.2.2.2.2.2.2.2.1,o.2.2.2.2.2.2.2.2.2.2.2.2.2.2.2.2.1,o.2.2.2.2.2.2.2.2.2.2.2.2.2.2.2.2.2.1,o.2.2.2.2.2.2.2.2.2.2.2.2.2.2.2.2.2.2.1,o.2.2.2.2.2.2.2.2.2.2.2.2.2.2.2.2.2.2.2.1,o.2.2.2.2.2.2.2.2.2.2.2.2.2.2.2.2.2.2.2.2.1,o.2.2.2.2.2.2.2.2.2.2.2.2.2.2.2.2.2.2.2.2.2.1,o.2.2.2.2.2.2.2.2.2.2.2.2.2.2.2.2.2.2.2.2.2.2.1,o.2.2.2.2.2.2.2.2.2.2.2.2.2.2.2.2.2.2.2.2.2.2.2.1,b.1,b.2.1,b.2.2.1,b.2.2.2.1,List.replicate k b,((m:Nat):Int),((k:Nat):Int),())) (by
  simp only [kH,az,zv,aA,aN,cond_false]) (fun k hk=>by
  simp only [kH,az,zv,aA,aF hk,cond_true];rw [(jn b hb).2];simp only [Option.bind_some,List.length_replicate,aS (show (k+1)*48≤lim by unfold lim;omega),cond_true,aM (show k<4611686018427387904 by omega),List.replicate_succ'])
 exact l1
theorem OY {d:bY} {c:Int} {ms:dG} (hr:lU c ms) (hm:(d.1,())∈ms) (hP:C1 (jX d c)) (hb:(d.2.2.2.2.2.1).length≤1048576):lH c ms [jX d c]=decide (((List.length ms:Nat):Int)=1):=by
 have iN:p7 (jX d c)=true:=(ME (jX d c) hb).2 hP;have hat:∀x:Int,(gR [jX d c] c x).isSome=decide (d.1=x):=fun x=>by
  unfold gR;rw [List.find?_cons,List.find?_nil,iN];show (match decide (d.1=x)&&(decide (c=c)&&true) with | true=>some (jX d c) | false=>none).isSome=_;rw [decide_eq_true (rfl:c=c)]
  cases decide (d.1=x)<;>rfl
 have hl:=hr.2.1.1;unfold lH
 by_cases h1:ms.length=1
 ·rw [ak (show ((List.length ms:Nat):Int)=1 by omega)];refine List.all_eq_true.2 fun x hx => ?_
  obtain ⟨i,hi,rfl⟩:=List.mem_iff_getElem.1 hx;obtain ⟨j,hj,e⟩:=List.mem_iff_getElem.1 hm;have:i=j:=by omega
  subst this;rw [hat,e];exact decide_eq_true rfl
 ·rw [aq (show ¬((List.length ms:Nat):Int)=1 by omega)];have h01:=FF hr.2.2 (show 1<ms.length by omega) (show 0<1 by omega)
  cases hh:ms.all fun m=>(gR [jX d c] c m.1).isSome
  ·rfl
  ·have h2:=List.all_eq_true.1 hh _ (List.getElem_mem (show 0<ms.length by omega));have h3:=List.all_eq_true.1 hh _ (List.getElem_mem (show 1<ms.length by omega));rw [hat] at h2 h3;have h2:=of_decide_eq_true h2;have h3:=of_decide_eq_true h3;omega
theorem OZ {n:Nat} {d:bY} (h:lI n d) (hn:n≤99) (c:Int) (ms:dG) (hl:ms.length≤1048576):oq d.1 d.2.1 d.2.2.1 d.2.2.2.1 d.2.2.2.2.1 d.2.2.2.2.2.1 d.2.2.2.2.2.2.1 d.2.2.2.2.2.2.2.1 d.2.2.2.2.2.2.2.2.1 d.2.2.2.2.2.2.2.2.2.1 d.2.2.2.2.2.2.2.2.2.2.1 d.2.2.2.2.2.2.2.2.2.2.2.1 d.2.2.2.2.2.2.2.2.2.2.2.2.1 d.2.2.2.2.2.2.2.2.2.2.2.2.2.1 d.2.2.2.2.2.2.2.2.2.2.2.2.2.2.1 d.2.2.2.2.2.2.2.2.2.2.2.2.2.2.2.1 d.2.2.2.2.2.2.2.2.2.2.2.2.2.2.2.2.1 d.2.2.2.2.2.2.2.2.2.2.2.2.2.2.2.2.2.1 d.2.2.2.2.2.2.2.2.2.2.2.2.2.2.2.2.2.2.1 d.2.2.2.2.2.2.2.2.2.2.2.2.2.2.2.2.2.2.2.1 d.2.2.2.2.2.2.2.2.2.2.2.2.2.2.2.2.2.2.2.2.1 d.2.2.2.2.2.2.2.2.2.2.2.2.2.2.2.2.2.2.2.2.2.1 d.2.2.2.2.2.2.2.2.2.2.2.2.2.2.2.2.2.2.2.2.2.2.1 d.2.2.2.2.2.2.2.2.2.2.2.2.2.2.2.2.2.2.2.2.2.2.2.1 c ms=some ((dy d c ms).1.1,(dy d c ms).1.2.1,(dy d c ms).1.2.2.1,(dy d c ms).1.2.2.2.1,(dy d c ms).1.2.2.2.2.1,(dy d c ms).1.2.2.2.2.2.1,(dy d c ms).1.2.2.2.2.2.2.1,(dy d c ms).1.2.2.2.2.2.2.2.1,(dy d c ms).1.2.2.2.2.2.2.2.2.1,(dy d c ms).1.2.2.2.2.2.2.2.2.2.1,(dy d c ms).1.2.2.2.2.2.2.2.2.2.2.1,(dy d c ms).1.2.2.2.2.2.2.2.2.2.2.2.1,(dy d c ms).1.2.2.2.2.2.2.2.2.2.2.2.2.1,(dy d c ms).1.2.2.2.2.2.2.2.2.2.2.2.2.2.1,(dy d c ms).1.2.2.2.2.2.2.2.2.2.2.2.2.2.2.1,(dy d c ms).1.2.2.2.2.2.2.2.2.2.2.2.2.2.2.2.1,(dy d c ms).1.2.2.2.2.2.2.2.2.2.2.2.2.2.2.2.2.1,(dy d c ms).1.2.2.2.2.2.2.2.2.2.2.2.2.2.2.2.2.2.1,(dy d c ms).1.2.2.2.2.2.2.2.2.2.2.2.2.2.2.2.2.2.2.1,(dy d c ms).1.2.2.2.2.2.2.2.2.2.2.2.2.2.2.2.2.2.2.2.1,(dy d c ms).1.2.2.2.2.2.2.2.2.2.2.2.2.2.2.2.2.2.2.2.2.1,(dy d c ms).1.2.2.2.2.2.2.2.2.2.2.2.2.2.2.2.2.2.2.2.2.2.1,(dy d c ms).1.2.2.2.2.2.2.2.2.2.2.2.2.2.2.2.2.2.2.2.2.2.2.1,(dy d c ms).1.2.2.2.2.2.2.2.2.2.2.2.2.2.2.2.2.2.2.2.2.2.2.2.1,(dy d c ms).2.1,(dy d c ms).2.2,()):=by
 have hW:=h.small (by omega);obtain ⟨_,k2,k3⟩:=m7 d hW;obtain ⟨_,r2,r3⟩:=qU c ms hl;have i2:=MC ms d.1 hl;have p2:=(uQ d hW).2;have cr:=mQ c ms hl;unfold oq dy Gr;delta az cS bA;simp only [k2,r2,i2,Option.bind_some]
 cases h2:d.2.1
 case true=>cases jU d<;>rfl
 cases h4:decide ((d.1,())∈ms)
 ·cases jU d<;>cases yd c ms<;>rfl
 cases h5:decide (c≤d.2.2.2.2.2.2.2.2.2.2.2.2.2.2.2.2.2.2.1)
 case true=>cases jU d<;>cases yd c ms<;>rfl
 cases h3:yd c ms
 ·cases jU d<;>rfl
 cases h1:jU d
 ·rfl
 have hr:=r3.1 h3;have hm:=of_decide_eq_true h4;have hc:d.2.2.2.2.2.2.2.2.2.2.2.2.2.2.2.2.2.2.1<c:=by have:=of_decide_eq_false h5;omega
 obtain ⟨g,hP,hB⟩:=I4 h hr hm h2 hc;have UU:(d.2.2.2.2.2.1).length≤60:=(yk hP).1;have hlm:=hr.2.1;have l1:=Q2 BP (lV d c ms) (jX d c) c ms (ms.length-1) (by omega) (by show (d.2.2.2.2.2.1).length≤_;omega);have l1:aJ kH (c,ms,(0:Int),false,(0:Int),(0:Int),[],[],[],[],(0:Int),(0:Int),(0:Int),(0:Int),(0:Int),(0:Int),(0:Int),(0:Int),(0:Int),[],(0:Int),(0:Int),(0:Int),[],[],[],d.1,d.2.1,d.2.2.1,d.2.2.2.1,d.2.2.2.2.1,d.2.2.2.2.2.1,d.2.2.2.2.2.2.1,d.2.2.2.2.2.2.2.1,d.2.2.2.2.2.2.2.2.1,d.2.2.2.2.2.2.2.2.2.1,d.2.2.2.2.2.2.2.2.2.2.1,d.2.2.2.2.2.2.2.2.2.2.2.1,d.2.2.2.2.2.2.2.2.2.2.2.2.1,d.2.2.2.2.2.2.2.2.2.2.2.2.2.1,d.2.2.2.2.2.2.2.2.2.2.2.2.2.2.1,d.2.2.2.2.2.2.2.2.2.2.2.2.2.2.2.1,d.2.2.2.2.2.2.2.2.2.2.2.2.2.2.2.2.1,d.2.2.2.2.2.2.2.2.2.2.2.2.2.2.2.2.2.1,c,d.2.2.2.2.2.2.2.2.2.2.2.2.2.2.2.2.2.2.2.1,c,ms,[(d.1,c,d.2.2.2.2.2.2.2.2.2.2.2.2.2.2.2.2.2.2.2.1,d.2.2.2.2.2.1,())],d.2.2.2.2.2.2.2.2.2.2.2.2.2.2.2.2.2.2.2.2.2.2.2.1,d.1,c,d.2.2.2.2.2.2.2.2.2.2.2.2.2.2.2.2.2.2.2.1,d.2.2.2.2.2.1,[],((ms.length-1:Nat):Int),(0:Int),())=_:=l1;have hg:(d.2.2.2.2.2.2.2.2.2.2.2.2.2.2.2.2.2.2.2.2.2.2.2.1).length≤1048576:=by have:=h.log;omega
 have iv:=(uT (lV d c ms) hr hm hB (by show (d.2.2.2.2.1).length≤_;have:=(zR h.q).1;omega) hg).2;have hw:IntKind.i64.wrap (((List.length ms:Nat):Int)-1)=((ms.length-1:Nat):Int):=by rw [dq]<;>omega
 have ci:=w8 d.2.2.2.2.2.1 (by omega);rw [h2] at p2;obtain ⟨o,ho⟩:∃o,o=lV d c ms:=⟨_,rfl⟩;rw [←ho] at iv l1;unfold tV;rw [←ho,OY hr hm hP (by omega),LC hr.2.2 hm];simp only [Bool.not_true,Bool.not_false,Bool.and_self,cond_false,cond_true,p2,cr,ci,hw,l1,bZ,Option.bind_some]
 cases decide (((List.length ms:Nat):Int)=1)
 ·simp only [cond_false]
 ·simp only [cond_true];rw [iv];rfl
end Go.TM
set_option linter.unusedSimpArgs false
set_option linter.unusedVariables false
namespace Go.TM
open Go
end Go.TM
set_option linter.unusedSimpArgs false
set_option linter.unusedVariables false
namespace Go.TM
open Go
abbrev Ey:Type:=Int×(List (Int×Unit))×Unit
theorem Uw (xs:List Ey) {k:Nat} (hk:k<xs.length) (h:xs.length+wl Bo xs≤1048576):xs[k].2.1.length≤1048576:=by
 have hw:=HQ Bo xs xs[k] (List.getElem_mem hk);have:Bo xs[k]=List.length xs[k].2.1+wl jR xs[k].2.1:=rfl;omega
theorem O0 (c:Int) (xs:List (Int×Unit)) (h:xs.length≤1048576):aK c xs=some (c,xs,())∧bM c xs=some (c,xs,()):=by
 constructor
 ·unfold aK;rw [aS (show (0+xs.length)*8≤lim by unfold lim;omega)];rfl
 ·unfold bM;rw [lF _ h];rfl
theorem Bt (xs:List Ey) (h:xs.length+wl Bo xs≤1048576):kP xs=some (xs,()):=by
 have hl:=ck (round:=ju) (e:=.inl (xs,())) xs.length (fun k=>(xs,xs.take k,((k:Nat):Int),())) (by
  simp only [ju,rJ,aN,cond_false,List.take_length]) (fun k hk=>by
  simp only [ju,rJ,aF hk,ax,cond_true,aG,List.getElem?_eq_getElem hk,Option.bind_some,(O0 xs[k].1 xs[k].2.1 (Uw xs hk h)).1,List.length_take,Nat.min_eq_left (Nat.le_of_lt hk),aS (show (k+1)*32≤lim by unfold lim;omega),aM (show k<4611686018427387904 by omega)];rw [List.take_succ_eq_append_getElem hk])
 have hl:aJ ju (xs,[],(0:Int),())=_:=hl;unfold kP;rw [hl];rfl
abbrev amd:Type:=Int×Bool×Int×Int×(List (Int×Unit))×aU×(List (Int×Unit))×(List (ByteArray×Unit))×Int×Int×Int×Int×Int×Int×Int×Int×Int×(List (Int×Unit))×Int×Int×Int×(List (Int×Unit))×(List ea)×(List (Int×Int×(List (Int×Unit))×Int×Int×Int×ByteArray×(List (Int×Unit))×Unit))×Unit
def C5 (id:Int):amd:=(id,false,0,0,[],[],[],[],0,0,0,0,0,0,0,0,0,[],0,0,0,[],[],[],())
theorem O1 {id:Int} (h:1≤id∧id≤5):qq id=some (id,false,0,0,[],[],[],[],0,0,0,0,0,0,0,0,0,[],0,0,0,[],[],[],true,()):=by
 unfold qq;rw [mE,ak h.1,ak h.2];rfl
def oA (n:Nat):List amd:=(List.range n).map fun (i:Nat)=>C5 ((i:Int)+1)
theorem Bu (n:Nat):(oA n).length=n:=by unfold oA;simp
theorem MW (n:Nat):oA (n+1)=oA n++[C5 ((n:Int)+1)]:=by unfold oA;rw [List.range_succ,List.map_append];rfl
theorem Ux (xs:List Ey):aJ jv ([],[],[],[],xs,[],[],[],(1:Int),())=some (.inl ([],[],[],[],xs,oA 5,[],[],())):=by
 have hl:=ck (round:=jv) (e:=.inl ([],[],[],[],xs,oA 5,[],[],())) 5 (fun k=>([],[],[],[],xs,oA k,[],[],((k:Nat):Int)+1,())) (by
  simp only [jv,bC,rK,bA];rw [aq (show ¬((5:Nat):Int)+1≤5 by omega)];rfl) (fun k hk=>by
  simp only [jv,bC,rK,bA,ak (show ((k:Nat):Int)+1≤5 by omega),cond_true,O1 (show 1≤((k:Nat):Int)+1∧((k:Nat):Int)+1≤5 by omega),Option.bind_some,Bu,aS (show (k+1)*320≤lim by unfold lim;omega),dq (show -9223372036854775808≤((k:Nat):Int)+1+1 by omega) (by omega),MW];rfl)
 exact hl
end Go.TM
set_option linter.unusedSimpArgs false
set_option linter.unusedVariables false
namespace Go.TM
open Go
def cn (code:List (Int×Unit)) (at_:Int):Prop:=0≤at_∧at_≤((code.length:Nat):Int)∧code.length≤1048576
theorem GV (y:Int):0≤IntKind.i64.wrap ((BitVec.ofInt IntKind.i64.bits y &&& BitVec.ofInt IntKind.i64.bits (255:Int)).toNat:Int)∧IntKind.i64.wrap ((BitVec.ofInt IntKind.i64.bits y &&& BitVec.ofInt IntKind.i64.bits (255:Int)).toNat:Int)≤255:=by
 have h:(BitVec.ofInt IntKind.i64.bits y &&& BitVec.ofInt IntKind.i64.bits (255:Int)).toNat≤255:=by
  rw [BitVec.toNat_and];exact Nat.le_trans Nat.and_le_right (by decide)
 rw [dq (by omega) (by omega)];omega
def abQ (code:List (Int×Unit)) (o:Option (Int×(List (Int×Unit))×Int×Int×Unit)) (lo hi:Int):Prop:=
 ∃v wK s',o=some (v,code,wK,s',())∧lo≤v∧v<hi∧cn code wK
theorem Ez (code:List (Int×Unit)) (at_ jY:Int) (h:cn code at_):abQ code (kz code at_ jY) 0 256:=by
 obtain ⟨h0,h1,h2⟩:=h;unfold kz
 by_cases dO:at_<((List.length code:Nat):Int)
 ·obtain ⟨k,rfl⟩:=Int.eq_ofNat_of_zero_le h0;have hk:k<code.length:=by omega
  rw [ak dO];simp only [cond_true,ax,aG,List.getElem?_eq_getElem hk,Option.bind_some,aM (show k<4611686018427387904 by omega)];exact ⟨_,_,_,rfl,(GV _).1,by have:=(GV (IntKind.i64.wrap ((IntKind.i64.wrap ((BitVec.ofInt IntKind.i64.bits (IntKind.i64.wrap ((BitVec.ofInt IntKind.i64.bits (Int.fdiv (IntKind.i64.wrap ((IntKind.i64.wrap (jY*(6364136223846793005:Int)))+(1442695040888963407:Int))) (2 ^ (min 33 IntKind.i64.bits))) ^^^ BitVec.ofInt IntKind.i64.bits (Int.fdiv (IntKind.i64.wrap ((IntKind.i64.wrap (jY*(6364136223846793005:Int)))+(1442695040888963407:Int))) (2 ^ (min 45 IntKind.i64.bits)))).toNat:Int)) &&& BitVec.ofInt IntKind.i64.bits (255:Int)).toNat:Int))+(IntKind.i64.wrap code[k].1)))).2;exact Int.lt_add_one_of_le this,by omega,by omega,h2⟩
 ·rw [aq dO];exact ⟨_,_,_,rfl,(GV _).1,Int.lt_add_one_of_le (GV _).2,h0,h1,h2⟩
theorem C6 {v n:Int} (hv:0≤v) (hn:0<n):0≤Int.tmod v n∧Int.tmod v n<n:=by
 obtain ⟨a,rfl⟩:=Int.eq_ofNat_of_zero_le hv;obtain ⟨b,rfl⟩:=Int.eq_ofNat_of_zero_le (Int.le_of_lt hn);have:Int.tmod ((a:Nat):Int) ((b:Nat):Int)=((a % b:Nat):Int):=rfl;rw [this];have:=Nat.mod_lt a (show 0<b by omega);omega
theorem dN (code:List (Int×Unit)) (at_ jY n:Int) (h:cn code at_) (hn:0<n):abQ code (bq code at_ jY n) 0 n:=by
 unfold bq;rw [aq (show ¬n≤0 by omega),aq (show ¬n=0 by omega)]
 by_cases ame:n≤256
 ·obtain ⟨v,a1,s1,e1,v1,v2,d1⟩:=Ez code at_ jY h;rw [ak ame];simp only [cond_false,cond_true,e1,Option.bind_some];exact ⟨_,_,_,rfl,(C6 v1 hn).1,(C6 v1 hn).2,d1⟩
 ·obtain ⟨v,a1,s1,e1,v1,v2,d1⟩:=Ez code at_ jY h;obtain ⟨w,a2,s2,e2,w1,w2,d2⟩:=Ez code a1 s1 d1;obtain ⟨x,a3,s3,e3,x1,x2,d3⟩:=Ez code a2 s2 d2;obtain ⟨y,a4,s4,e4,y1,y2,d4⟩:=Ez code a3 s3 d3;rw [aq ame];simp only [cond_false,e1,e2,e3,e4,Option.bind_some];have hw:IntKind.i64.wrap ((IntKind.i64.wrap ((IntKind.i64.wrap ((IntKind.i64.wrap (v*(16777216:Int)))+(IntKind.i64.wrap (w*(65536:Int)))))+(IntKind.i64.wrap (x*(256:Int)))))+y)=v*16777216+w*65536+x*256+y:=by
   rw [dq (show -9223372036854775808≤v*(16777216:Int) by omega) (by omega),dq (show -9223372036854775808≤w*(65536:Int) by omega) (by omega),dq (show -9223372036854775808≤x*(256:Int) by omega) (by omega),
    dq (show -9223372036854775808≤v*(16777216:Int)+w*65536 by omega) (by omega),dq (show -9223372036854775808≤v*(16777216:Int)+w*65536+x*256 by omega) (by omega),dq (by omega) (by omega)]
  rw [hw];have hr:=C6 (v:=v*16777216+w*65536+x*256+y) (by omega) hn;exact ⟨_,_,_,rfl,hr.1,hr.2,d4⟩
theorem q7 (code:List (Int×Unit)) (at_ jY n:Int) (h:cn code at_) (hn:0<n):∃b wK s',eT code at_ jY n=some (b,code,wK,s',())∧cn code wK:=by
 obtain ⟨v,a1,s1,e1,v1,v2,d1⟩:=dN code at_ jY n h hn;unfold eT;simp only [e1,Option.bind_some];exact ⟨_,_,_,rfl,d1⟩
def ahj {B:Type} (code:List (Int×Unit)):Sum ((List (Int×Unit))×Int×Unit) B→Prop
 |.inl y=>y.1=code
 |.inr _=>False
theorem ahk (code:List (Int×Unit)) (h:code.length≤1048576):∃s',sM code=some (code,(0:Int),s',()):=by
 unfold sM;obtain ⟨e,he,hq⟩:=dt (round:=nB) (x:=(code,IntKind.i64.wrap ((27101:Int)+((List.length code:Nat):Int)),((0:Nat):Int),())) code.length (fun k x=>∃s,x=(code,s,((k:Nat):Int),())) (ahj code) (by
  rintro x ⟨s,rfl⟩
  exact ⟨.inl (code,s,()),by simp only [nB,vA,aN,cond_false],rfl⟩) (by
  rintro k x hk ⟨s,rfl⟩
  simp only [nB,vA,aF hk,ax,cond_true,aG,List.getElem?_eq_getElem hk,Option.bind_some,aM (show k<4611686018427387904 by omega)]
  cases decide (((k:Nat):Int)<(4000:Int))
  ·exact .inl ⟨.inl (code,s,()),rfl,rfl⟩
  ·exact .inr ⟨_,rfl,_,rfl⟩) ⟨_,rfl⟩
 rw [show ((0:Nat):Int)=(0:Int) from rfl] at he;rw [he]
 cases e with
 |inr e=>exact hq.elim
 |inl e=>
  have hq:e.1=code:=hq;exact ⟨e.2.1,by rw [←hq];rfl⟩
theorem zS (code:List (Int×Unit)) (at_ jY:Int) (l:List (Int×Unit)) (h:cn code at_) (h0:0<l.length):∃v wK s',cL code at_ jY l=some (v,code,wK,s',())∧(v,())∈l∧cn code wK:=by
 obtain ⟨v,a1,s1,e1,v1,v2,d1⟩:=dN code at_ jY ((l.length:Nat):Int) h (by omega);obtain ⟨k,rfl⟩:=Int.eq_ofNat_of_zero_le v1;have hk:k<l.length:=by omega
 unfold cL;simp only [e1,Option.bind_some,ax,cond_true,aG,List.getElem?_eq_getElem hk];exact ⟨_,_,_,rfl,List.getElem_mem hk,d1⟩
end Go.TM
set_option linter.unusedSimpArgs false
set_option linter.unusedVariables false
namespace Go.TM
open Go
theorem Uy (n:Nat) (x:Int) (h:n≤1048576):∃b,uJ ((n:Nat):Int) x=some (b,())∧b.size=n:=by
 unfold uJ;obtain ⟨e,he,hq⟩:=dt (round:=km) (x:=(((n:Nat):Int),x,List.replicate n ((0:Int),()),((0:Nat):Int),())) n (fun k y=>∃l:List (Int×Unit),y=(((n:Nat):Int),x,l,((k:Nat):Int),())∧l.length=n) (fun e=>∃l:List (Int×Unit),e=.inl (l,())∧l.length=n) (by
   rintro y ⟨l,rfl,hl⟩
   exact ⟨.inl (l,()),by simp only [km,aw,tK,aN,cond_false],_,rfl,hl⟩) (by
   rintro k y hk ⟨l,rfl,hl⟩
   have hkl:k<l.length:=by omega
   refine .inr ⟨_,?_,l.set k (x,()),rfl,(by rw [List.length_set];exact hl)⟩;simp only [km,aw,tK,aF hk,ax,cond_true,aG,fZ hkl,List.getElem?_eq_getElem hkl,Option.bind_some,aM (show k<4611686018427387904 by omega)]) ⟨List.replicate n ((0:Int),()),rfl,List.length_replicate⟩
 have he:aJ km (((n:Nat):Int),x,List.replicate n ((0:Int),()),(0:Int),())=some e:=he;obtain ⟨l,rfl,hl⟩:=hq;simp only [decide_true,cond_true,ax,aG,aS (show n*1≤lim by unfold lim;omega),he,jI];exact ⟨_,rfl,by rw [Ee,hl]⟩
end Go.TM
set_option linter.unusedSimpArgs false
set_option linter.unusedVariables false
namespace Go.TM
open Go
theorem O2 (code:List (Int×Unit)) (at_ jY:Int) (l:List (ByteArray×Unit)) (h:cn code at_) (h0:0<l.length):∃v wK s',qt code at_ jY l=some (v,code,wK,s',())∧(v,())∈l∧cn code wK:=by
 obtain ⟨v,a1,s1,e1,v1,v2,d1⟩:=dN code at_ jY ((l.length:Nat):Int) h (by omega);obtain ⟨k,rfl⟩:=Int.eq_ofNat_of_zero_le v1;have hk:k<l.length:=by omega
 unfold qt;simp only [e1,Option.bind_some,ax,cond_true,aG,List.getElem?_eq_getElem hk];exact ⟨_,_,_,rfl,List.getElem_mem hk,d1⟩
theorem YB (code:List (Int×Unit)) (at_ jY q:Int) (h:cn code at_):∃f l s wK s',pO code at_ jY q=some (q,f,l,s,code,wK,s',())∧cn code wK∧s.size≤3:=by
 obtain ⟨v,a1,s1,e1,_,_,d1⟩:=dN code at_ jY 2 h (by omega);obtain ⟨t,a2,s2,e2,ht,d2⟩:=O2 code a1 s1 [((ByteArray.mk #[]),()),((ByteArray.mk #[120]),()),((ByteArray.mk #[121,121]),()),((ByteArray.mk #[122,122,122]),())] d1 (by simp);unfold pO;simp only [e1,e2,Option.bind_some];refine ⟨_,_,_,_,_,rfl,d2,?_⟩;simp only [List.mem_cons,Prod.mk.injEq,and_true,List.not_mem_nil,or_false] at ht;rcases ht with rfl | rfl | rfl | rfl<;>decide
theorem Q3 (code:List (Int×Unit)) (at_ jY:Int) (h:cn code at_):∃q f l s wK s',pz code at_ jY=some (q,f,l,s,code,wK,s',())∧cn code wK∧s.size≤61:=by
 obtain ⟨v,a1,s1,e1,_,_,d1⟩:=dN code at_ jY 12 h (by omega);obtain ⟨f,l,t,a2,s2,e2,d2,ht⟩:=YB code a1 s1 (IntKind.i64.wrap ((1:Int)+v)) d1;obtain ⟨w,a3,s3,e3,_,_,d3⟩:=dN code a2 s2 16 d2 (by omega);have pick:∀l:List (Int×Unit),0<l.length→∃v wK s',cL code a3 s3 l=some (v,code,wK,s',())∧(v,())∈l∧cn code wK:=fun l hl=>zS code a3 s3 l d3 hl
 unfold pz;delta aA;simp only [e1,e2,e3,Option.bind_some]
 cases decide (w=0)
 case true=>
  obtain ⟨x,a4,s4,e4,_,d4⟩:=pick [((0:Int),()),((-1:Int),()),((60:Int),()),((61:Int),())] (by simp);simp only [e4,Option.bind_some,cond_true];exact ⟨_,_,_,_,_,_,rfl,d4,by omega⟩
 cases decide (w=1)
 case true=>
  obtain ⟨x,a4,s4,e4,_,d4⟩:=pick [((0:Int),()),((5:Int),()),((6:Int),())] (by simp);simp only [e4,Option.bind_some,cond_true];exact ⟨_,_,_,_,_,_,rfl,d4,by omega⟩
 cases decide (w=2)
 case true=>
  obtain ⟨x,a4,s4,e4,_,d4⟩:=pick [((0:Int),()),((3:Int),())] (by simp);simp only [e4,Option.bind_some,cond_true];exact ⟨_,_,_,_,_,_,rfl,d4,by omega⟩
 cases decide (w=3)
 case true=>
  obtain ⟨x,a4,s4,e4,x0,x1,d4⟩:=dN code a3 s3 2 d3 (by omega);obtain ⟨n,rfl⟩:=Int.eq_ofNat_of_zero_le x0;have hw:IntKind.i64.wrap ((60:Int)+((n:Nat):Int))=((60+n:Nat):Int):=by rw [dq]<;>omega
  obtain ⟨b,e5,hb⟩:=Uy (60+n) 65 (by omega);simp only [e4,hw,e5,Option.bind_some,cond_true];exact ⟨_,_,_,_,_,_,rfl,d4,by omega⟩
 exact ⟨_,_,_,_,_,_,rfl,d3,by omega⟩
theorem MX (code:List (Int×Unit)) (at_ jY:Int) (h:cn code at_):∃l wK s',sA code at_ jY=some (l,code,wK,s',())∧List.length l≤9∧cn code wK∧∀x∈l,ByteArray.size x.2.2.2.1≤61:=by
 obtain ⟨e,he,hq⟩:=dt (round:=gg) (x:=(code,at_,jY,[],((0+1:Nat):Int),())) 9 (fun k x=>∃(a s:Int) (l:aU),x=(code,a,s,l,((k+1:Nat):Int),())∧l.length≤k∧cn code a∧∀x∈l,ByteArray.size x.2.2.2.1≤61)
  (fun e=>∃(a s:Int) (l:aU),e=.inl (code,a,s,l,())∧l.length≤9∧cn code a∧∀x∈l,ByteArray.size x.2.2.2.1≤61) (by
   rintro x ⟨a,s,l,rfl,q1,d,hx⟩
   obtain ⟨v,a1,s1,e1,v0,v1,d1⟩:=dN code a s 10 d (by omega);refine ⟨.inl (code,a1,s1,l,()),?_,_,_,_,rfl,q1,d1,hx⟩;simp only [gg,aw,lz,aA,e1,Option.bind_some,aq (show ¬((9+1:Nat):Int)≤v by omega),cond_false]) (by
   rintro k x hk ⟨a,s,l,rfl,q1,d,hx⟩
   obtain ⟨v,a1,s1,e1,v0,v1,d1⟩:=dN code a s 10 d (by omega)
   by_cases dO:((k+1:Nat):Int)≤v
   ·obtain ⟨b,a2,s2,e2,d2⟩:=q7 code a1 s1 4 d1 (by omega)
    cases b
    ·obtain ⟨f,lv,t,a3,s3,e3,d3,ht⟩:=YB code a2 s2 ((k+1:Nat):Int) d2;refine .inr ⟨_,?_,a3,s3,l++[(((k+1:Nat):Int),f,lv,t,())],rfl,by simp;omega,d3,fun x h=>by
      rcases List.mem_append.1 h with h | h
      ·exact hx x h
      ·rw [List.mem_singleton] at h;subst h;show t.size≤61;omega⟩
     simp only [gg,aw,lz,aA,e1,e2,e3,Option.bind_some,ak dO,cond_true,Bool.not_false,aS (show (l.length+1)*40≤lim by unfold lim;omega),aM (show k+1<4611686018427387904 by omega)]
    ·refine .inr ⟨_,?_,a2,s2,l,rfl,by omega,d2,hx⟩;simp only [gg,aw,lz,aA,e1,e2,Option.bind_some,ak dO,cond_true,cond_false,Bool.not_true,aM (show k+1<4611686018427387904 by omega)]
   ·refine .inl ⟨.inl (code,a1,s1,l,()),?_,_,_,_,rfl,by omega,d1,hx⟩;simp only [gg,aw,lz,aA,e1,Option.bind_some,aq dO,cond_false]) ⟨at_,jY,[],rfl,by simp,h,fun x h=>by cases h⟩
 have he:aJ gg (code,at_,jY,[],(1:Int),())=some e:=he;obtain ⟨a,s,l,rfl,q1,d,hx⟩:=hq;unfold sA;rw [he];exact ⟨l,a,s,rfl,q1,d,hx⟩
theorem O3 (code:List (Int×Unit)) (at_ jY:Int) (h:cn code at_):∃l wK s',lA code at_ jY=some (l,code,wK,s',())∧List.length l≤10∧cn code wK∧∀x∈l,ByteArray.size x.2.2.2.1≤61:=by
 obtain ⟨l,a1,s1,e1,l1,d1,hx⟩:=MX code at_ jY h;obtain ⟨v,a2,s2,e2,_,_,d2⟩:=dN code a1 s1 16 d1 (by omega);unfold lA;delta aA;simp only [e1,e2,Option.bind_some]
 cases decide (v=0)
 case true=>
  obtain ⟨q,f,lv,t,a3,s3,e3,d3,ht⟩:=Q3 code a2 s2 d2;simp only [e3,Option.bind_some,cond_true,aS (show (l.length+1)*40≤lim by unfold lim;omega)];exact ⟨_,_,_,rfl,by simp;omega,d3,fun x h=>by
   rcases List.mem_append.1 h with h | h
   ·exact hx x h
   ·rw [List.mem_singleton] at h;subst h;exact ht⟩
 cases decide (v=1)
 case true=>
  by_cases h0:(0:Int)<((List.length l:Nat):Int)
  ·obtain ⟨w,a3,s3,e3,w0,w1,d3⟩:=dN code a2 s2 ((List.length l:Nat):Int) d2 h0;obtain ⟨i,rfl⟩:=Int.eq_ofNat_of_zero_le w0;have hi:i<l.length:=by omega
   obtain ⟨x,a4,s4,e4,_,d4⟩:=zS code a3 s3 [((0:Int),()),((-1:Int),()),((3:Int),()),((61:Int),())] d3 (by simp);simp only [ak h0,e3,e4,Option.bind_some,cond_true,ax,aG,fZ hi,List.getElem?_eq_getElem hi];exact ⟨_,_,_,rfl,by rw [List.length_set];omega,d4,fun y h=>by
    rcases List.mem_or_eq_of_mem_set h with h | rfl
    ·exact hx y h
    ·exact hx l[i] (List.getElem_mem hi)⟩
  ·rw [aq h0];exact ⟨_,_,_,rfl,by omega,d2,hx⟩
 exact ⟨_,_,_,rfl,by omega,d2,hx⟩
end Go.TM
set_option linter.unusedSimpArgs false
set_option linter.unusedVariables false
namespace Go.TM
open Go
def kW (xs:List (Int×Unit)) (m:Nat):Prop:=xs.length≤m∧(∀j (hj:j<xs.length),1≤xs[j].1∧xs[j].1≤((m:Nat):Int))∧∀i j (hi:i<xs.length) (hj:j<xs.length),i<j→xs[i].1<xs[j].1
theorem kW.snoc {xs:List (Int×Unit)} {m:Nat} (h:kW xs m):kW (xs++[(((m+1:Nat):Int),())]) (m+1):=by
 obtain ⟨h1,h2,h3⟩:=h;refine ⟨by simp;omega,fun j hj => ?_,fun i j hi hj VS => ?_⟩
 ·by_cases hx:j<xs.length
  ·rw [List.getElem_append_left hx];have:=h2 j hx;omega
  ·have:j=xs.length:=by simp at hj;omega
   subst this;simp;omega
 ·by_cases hx:j<xs.length
  ·rw [List.getElem_append_left hx,List.getElem_append_left (by omega)];exact h3 i j (by omega) hx VS
  ·have hj':j=xs.length:=by simp at hj;omega
   subst hj';have Y8:i<xs.length:=VS;rw [List.getElem_append_left Y8];have:=h2 i Y8;simp;omega
theorem kW.up {xs:List (Int×Unit)} {m:Nat} (h:kW xs m):kW xs (m+1):=
 ⟨by have:=h.1;omega,fun j hj=>by have:=h.2.1 j hj;omega,h.2.2⟩
structure I5 (c:Int) (xs:List (Int×Unit)):Prop where
 y0:1≤c
 py:c≤9
 some_:1≤xs.length
 rising:kW xs 5
theorem I5.len {c:Int} {xs:List (Int×Unit)} (h:I5 c xs):xs.length≤5:=h.rising.1
def YC {B:Type} (code:List (Int×Unit)) (c:Int):Sum ((List (Int×Unit))×Int×Int×Int×(List (Int×Unit))×Int×(List (Int×Unit))×Unit) B→Prop
 |.inl y=>y.1=code∧cn code y.2.1∧y.2.2.2.2.2.1=c∧kW y.2.2.2.2.2.2.1 4
 |.inr _=>False
theorem Q4 (code:List (Int×Unit)) (at_ jY:Int) (h:cn code at_):∃c xs wK s',qN code at_ jY=some (c,xs,code,wK,s',())∧I5 c xs∧c≤3∧kW xs 4∧cn code wK:=by
 obtain ⟨v,a1,s1,e1,v1,v2,d1⟩:=dN code at_ jY 3 h (by omega);unfold qN;rw [e1];simp only [Option.bind_some];have hw:IntKind.i64.wrap ((1:Int)+v)=1+v:=dq (by omega) (by omega);rw [hw];obtain ⟨e,he,hq⟩:=dt (round:=ki) (x:=(code,a1,s1,(0:Int),[],1+v,[],((1:Nat):Int),())) 4 (fun k x=>∃(a s:Int) (m:List (Int×Unit)),x=(code,a,s,(0:Int),[],1+v,m,((k+1:Nat):Int),())∧cn code a∧kW m k)
  (YC code (1+v)) (by
  rintro x ⟨a,s,m,rfl,da,rm⟩
  exact ⟨.inl (code,a,s,0,[],1+v,m,()),by simp only [ki,bC,tI,aq (show ¬((4+1:Nat):Int)≤4 by omega),cond_false],rfl,da,rfl,rm⟩) (by
  rintro k x hk ⟨a,s,m,rfl,da,rm⟩
  obtain ⟨b,a2,s2,e2,d2⟩:=q7 code a s 3 da (by omega);have YZ:=rm.1;have hs:IntKind.i64.wrap (((k+1:Nat):Int)+(1:Int))=((k+1+1:Nat):Int):=by rw [dq]<;>omega
  simp only [ki,bC,tI,ak (show ((k+1:Nat):Int)≤4 by omega),cond_true,e2,Option.bind_some,aS (show (List.length m+1)*8≤lim by unfold lim;omega),hs]
  cases b
  ·exact .inr ⟨_,rfl,a2,s2,m++[(((k+1:Nat):Int),())],rfl,d2,rm.snoc⟩
  ·exact .inr ⟨_,rfl,a2,s2,m,rfl,d2,rm.up⟩) ⟨a1,s1,[],rfl,d1,by simp,fun j hj=>by simp at hj,fun i j hi=>by simp at hi⟩
 have he:aJ ki (code,a1,s1,(0:Int),[],1+v,[],(1:Int),())=some e:=he;rw [he]
 cases e with
 |inr e=>exact hq.elim
 |inl e=>
  obtain ⟨y1,y2,y3,y4,y5,y6,y7,_⟩:=e;obtain ⟨q1,q2,q3,q4⟩:=hq;simp only at q1 q2 q3 q4;subst q1 q3;simp only [jI];have q5:kW y7 5:=q4.up
  by_cases h0:((List.length y7:Nat):Int)=0
  ·rw [ak h0];have r4:kW [((2:Int),())] 4:=⟨by simp,fun j hj=>by
    have:j=0:=by simp at hj;omega
    subst this;simp,fun i j hi hj VS=>by simp at hi hj;omega⟩
   exact ⟨_,_,_,_,rfl,⟨by omega,by omega,by simp,r4.up⟩,by omega,r4,q2⟩
  ·rw [aq h0];exact ⟨_,_,_,_,rfl,⟨by omega,by omega,by omega,q5⟩,by omega,q4,q2⟩
end Go.TM
set_option linter.unusedSimpArgs false
set_option linter.unusedVariables false
namespace Go.TM
open Go
structure I6 (rs:List Ey):Prop where
 some_:1≤rs.length
 GK:rs.length≤5
 each:∀k (hk:k<rs.length),rs[k].1=((k+1:Nat):Int)∧I5 rs[k].1 rs[k].2.1∧kW rs[k].2.1 3
theorem O4 (code:List (Int×Unit)) (a s:Int) (out:List Ey) (i c:Int) (d:cn code a):∃a' s' m,aJ ga (code,a,s,out,i,c,[],(1:Int),())=some (.inl (code,a',s',out,i,c,m,()))∧kW m 3∧cn code a':=by
 obtain ⟨e,he,a',s',m,rfl,h1,h2⟩:=dt (round:=ga) (x:=(code,a,s,out,i,c,[],((0+1:Nat):Int),())) 3
  (fun k x=>∃(a s:Int) (m:List (Int×Unit)),x=(code,a,s,out,i,c,m,((k+1:Nat):Int),())∧cn code a∧kW m k)
  (fun e=>∃(a s:Int) (m:List (Int×Unit)),e=.inl (code,a,s,out,i,c,m,())∧kW m 3∧cn code a) (by
   rintro x ⟨a,s,m,rfl,da,rm⟩
   exact ⟨_,by simp only [ga,bC,nC,aq (show ¬((3+1:Nat):Int)≤3 by omega),cond_false],a,s,m,rfl,rm,da⟩) (by
   rintro k x hk ⟨a,s,m,rfl,da,rm⟩
   obtain ⟨b,a2,s2,e2,d2⟩:=q7 code a s 4 da (by omega);have YZ:=rm.1;have hs:IntKind.i64.wrap (((k+1:Nat):Int)+(1:Int))=((k+1+1:Nat):Int):=by rw [dq]<;>omega
   simp only [ga,bC,nC,ak (show ((k+1:Nat):Int)≤3 by omega),cond_true,e2,Option.bind_some,aS (show (List.length m+1)*8≤lim by unfold lim;omega),hs]
   cases b
   ·exact .inr ⟨_,rfl,a2,s2,m++[(((k+1:Nat):Int),())],rfl,d2,rm.snoc⟩
   ·exact .inr ⟨_,rfl,a2,s2,m,rfl,d2,rm.up⟩) ⟨a,s,[],rfl,d,by simp,fun j hj=>by simp at hj,fun i j hi=>by simp at hi⟩
 exact ⟨a',s',m,he,h1,h2⟩
theorem ahl {m:List (Int×Unit)} (h:kW m 3):kW m 5:=h.up.up
theorem MY (code:List (Int×Unit)) (a s:Int) (d:cn code a):∃rs a' s',nc code a s=some (rs,code,a',s',())∧I6 rs∧cn code a':=by
 obtain ⟨e,he,a',s',rs,rfl,h1,h2⟩:=dt (round:=gb) (x:=(code,a,s,[],((0:Nat):Int),())) 5
  (fun k x=>∃(a s:Int) (rs:List Ey),x=(code,a,s,rs,((k:Nat):Int),())∧cn code a∧rs.length=k∧∀j (hj:j<rs.length),rs[j].1=((j+1:Nat):Int)∧I5 rs[j].1 rs[j].2.1∧kW rs[j].2.1 3)
  (fun e=>∃(a s:Int) (rs:List Ey),e=.inl (code,a,s,rs,())∧I6 rs∧cn code a) (by
   rintro x ⟨a,s,rs,rfl,da,hl,hr⟩
   obtain ⟨b,a2,s2,e2,b1,b2,d2⟩:=dN code a s 5 da (by omega);exact ⟨_,by simp only [gb,aw,nD,e2,Option.bind_some,dq (show -9223372036854775808≤1+b by omega) (by omega),aq (show ¬((5:Nat):Int)<1+b by omega),cond_false],a2,s2,rs,rfl,⟨by omega,by omega,hr⟩,d2⟩) (by
   rintro k x hk ⟨a,s,rs,rfl,da,hl,hr⟩
   obtain ⟨b,a2,s2,e2,b1,b2,d2⟩:=dN code a s 5 da (by omega);simp only [gb,aw,nD,e2,Option.bind_some,dq (show -9223372036854775808≤1+b by omega) (by omega)]
   by_cases hb:((k:Nat):Int)<1+b
   case neg=>
    rw [aq hb];exact .inl ⟨_,rfl,a2,s2,rs,rfl,⟨by omega,by omega,hr⟩,d2⟩
   obtain ⟨a3,s3,m,e3,rm,d3⟩:=O4 code a2 s2 rs ((k:Nat):Int) ((k+1:Nat):Int) d2;have more:∀(a s:Int) (m:List (Int×Unit)),cn code a→1≤m.length→kW m 3→∃y,(some (.inl (code,a,s,rs++[(((k+1:Nat):Int),m,())],((k+1:Nat):Int),())):Option (Sum _ (Sum (List (Int×Unit)×Int×Int×List Ey×Unit) Unit)))=some (.inl y)∧∃(a s:Int) (rs:List Ey),y=(code,a,s,rs,((k+1:Nat):Int),())∧cn code a∧rs.length=k+1∧∀j (hj:j<rs.length),rs[j].1=((j+1:Nat):Int)∧I5 rs[j].1 rs[j].2.1∧kW rs[j].2.1 3:=fun a s m da h1 rm=>⟨_,rfl,a,s,_,rfl,da,by rw [List.length_append,hl];rfl,fun j hj=>by
    rw [List.length_append,List.length_singleton] at hj
    by_cases e:j<rs.length
    ·rw [List.getElem_append_left e];exact hr j e
    ·have:j=rs.length:=by omega
     subst this;rw [List.getElem_append_right (Nat.le_refl _)];simp only [Nat.sub_self,List.getElem_cons_zero];exact ⟨by rw [hl],⟨by omega,by omega,h1,ahl rm⟩,rm⟩⟩
   simp only [ak hb,cond_true,aM (show k<4611686018427387904 by omega),e3,jI];have QV:Nat.ble ((rs.length+1)*32) lim=true:=aS (by rw [hl];unfold lim;omega)
   by_cases h0:((List.length m:Nat):Int)=0
   ·obtain ⟨v,a4,s4,e4,v1,v2,d4⟩:=dN code a3 s3 3 d3 (by omega);simp only [ak h0,cond_true,e4,Option.bind_some,QV,dq (show -9223372036854775808≤1+v by omega) (by omega)];exact .inr (more a4 s4 [(1+v,())] d4 (by simp) ⟨by simp,fun j hj=>by
     have:j=0:=by simp at hj;omega
     subst this;exact ⟨by show 1≤1+v;omega,by show 1+v≤3;omega⟩,fun i j hi hj VS=>by simp at hi hj;omega⟩)
   ·simp only [aq h0,cond_false,QV,cond_true];exact .inr (more a3 s3 m d3 (by omega) rm)) ⟨a,s,[],rfl,d,rfl,fun j hj=>by simp at hj⟩
 have he:aJ gb (code,a,s,[],(0:Int),())=_:=he;refine ⟨rs,a',s',?_,h1,h2⟩;unfold nc;rw [he];rfl
end Go.TM
set_option linter.unusedSimpArgs false
set_option linter.unusedVariables false
namespace Go.TM
open Go
abbrev O5:Type:=List (Int×dG×Unit)
abbrev GL:Type:=Int×Int×Int×Int×Int×Int×ByteArray×Int×Int×Int×Int×Int×dG×Int×Int×Int×aU×Unit
abbrev mj:Type:=O5×List bY×List GL×List wu×Unit
def Al (w:mj) (k:Nat) (d:bY):mj:=(w.1,w.2.1.set k d,w.2.2)
def fF (w:mj) (l:List GL):mj:=(w.1,w.2.1,l,w.2.2.2)
def xG (w:mj) (l:List wu):mj:=(w.1,w.2.1,w.2.2.1,l,())
theorem wA {k:Nat} (hk:k<1000):IntKind.i64.wrap (((k+1:Nat):Int)-1)=((k:Nat):Int):=by rw [dq]<;>omega
theorem pR (w:mj) (h:w.2.1.length≤5) {k:Nat} (hk:k<w.2.1.length) (d:bY) (hd:d.1=((k+1:Nat):Int)):ej w.1 w.2.1 w.2.2.1 w.2.2.2.1 d.1 d.2.1 d.2.2.1 d.2.2.2.1 d.2.2.2.2.1 d.2.2.2.2.2.1 d.2.2.2.2.2.2.1 d.2.2.2.2.2.2.2.1 d.2.2.2.2.2.2.2.2.1 d.2.2.2.2.2.2.2.2.2.1 d.2.2.2.2.2.2.2.2.2.2.1 d.2.2.2.2.2.2.2.2.2.2.2.1 d.2.2.2.2.2.2.2.2.2.2.2.2.1 d.2.2.2.2.2.2.2.2.2.2.2.2.2.1 d.2.2.2.2.2.2.2.2.2.2.2.2.2.2.1 d.2.2.2.2.2.2.2.2.2.2.2.2.2.2.2.1 d.2.2.2.2.2.2.2.2.2.2.2.2.2.2.2.2.1 d.2.2.2.2.2.2.2.2.2.2.2.2.2.2.2.2.2.1 d.2.2.2.2.2.2.2.2.2.2.2.2.2.2.2.2.2.2.1 d.2.2.2.2.2.2.2.2.2.2.2.2.2.2.2.2.2.2.2.1 d.2.2.2.2.2.2.2.2.2.2.2.2.2.2.2.2.2.2.2.2.1 d.2.2.2.2.2.2.2.2.2.2.2.2.2.2.2.2.2.2.2.2.2.1 d.2.2.2.2.2.2.2.2.2.2.2.2.2.2.2.2.2.2.2.2.2.2.1 d.2.2.2.2.2.2.2.2.2.2.2.2.2.2.2.2.2.2.2.2.2.2.2.1=some ((Al w k d).1,(Al w k d).2.1,(Al w k d).2.2.1,(Al w k d).2.2.2.1,()):=by
 unfold ej;simp only [hd,wA (show k<1000 by omega),ax,aG,cond_true,List.nil_append,fZ hk,List.getElem?_eq_getElem hk,Option.bind_some,aS (show (0+w.2.1.length)*320≤lim by unfold lim;omega)];rw [←hd];rfl
theorem EA (w:mj) (h:w.2.2.1.length≤1073741824) (x:GL):eV w.1 w.2.1 w.2.2.1 w.2.2.2.1 x.1 x.2.1 x.2.2.1 x.2.2.2.1 x.2.2.2.2.1 x.2.2.2.2.2.1 x.2.2.2.2.2.2.1 x.2.2.2.2.2.2.2.1 x.2.2.2.2.2.2.2.2.1 x.2.2.2.2.2.2.2.2.2.1 x.2.2.2.2.2.2.2.2.2.2.1 x.2.2.2.2.2.2.2.2.2.2.2.1 x.2.2.2.2.2.2.2.2.2.2.2.2.1 x.2.2.2.2.2.2.2.2.2.2.2.2.2.1 x.2.2.2.2.2.2.2.2.2.2.2.2.2.2.1 x.2.2.2.2.2.2.2.2.2.2.2.2.2.2.2.1 x.2.2.2.2.2.2.2.2.2.2.2.2.2.2.2.2.1=some ((fF w (w.2.2.1++[x])).1,(fF w (w.2.2.1++[x])).2.1,(fF w (w.2.2.1++[x])).2.2.1,(fF w (w.2.2.1++[x])).2.2.2.1,()):=by
 unfold eV;simp only [List.nil_append,cond_true,aS (show (0+w.2.2.1.length)*176≤lim by unfold lim;omega),aS (show (w.2.2.1.length+1)*176≤lim by unfold lim;omega)];rfl
def EB (Cb c:Int) (x:dY):GL:=(1,Cb,c,x.1,x.2.1,x.2.2.1,x.2.2.2.1,0,0,0,0,0,[],0,0,0,[],())
def xH (Cb c:Int) (t:kJ):GL:=(2,Cb,c,0,0,0,ByteArray.empty,t.1,t.2.1,t.2.2.1,t.2.2.2.1,t.2.2.2.2.1,t.2.2.2.2.2.1,0,0,0,[],())
def Q5 (Cb c:Int) (b:ea):GL:=(3,Cb,c,0,0,0,ByteArray.empty,0,0,0,0,0,[],b.1,b.2.1,b.2.2.1,b.2.2.2.1,())
def eN (ms:dG) (c id:Int) (x:dY):List GL:=(ms.filter fun m => !decide (m.1=id)).map fun m=>EB m.1 c x
def dz (ms:dG) (c id:Int) (l:aU):List GL:=l.flatMap (eN ms c id)
theorem JT (ms:dG) (c id:Int) (x:dY) {k:Nat} (hk:k<ms.length):eN (ms.take (k+1)) c id x=eN (ms.take k) c id x++(bif !decide (ms[k].1=id) then [EB ms[k].1 c x] else []):=by
 unfold eN;rw [List.take_succ_eq_append_getElem hk,List.filter_append,List.map_append,List.filter_cons,List.filter_nil]
 cases decide (ms[k].1=id)<;>rfl
theorem EC (ms:dG) (c id:Int) (x:dY):(eN ms c id x).length≤ms.length:=by
 unfold eN;rw [List.length_map];exact List.length_filter_le _ _
theorem O6 (ms:dG) (c id:Int) (l:aU) {k:Nat} (hk:k<l.length):dz ms c id (l.take (k+1))=dz ms c id (l.take k)++eN ms c id l[k]:=by
 unfold dz;rw [List.take_succ_eq_append_getElem hk,List.flatMap_append];simp
theorem zT (ms:dG) (c id:Int) (hn:ms.length≤5):(l:aU)→(dz ms c id l).length≤5*l.length
 | []=>by simp [dz]
 |x::l=>by
  have h1:=zT ms c id hn l;have h2:=EC ms c id x;have e:dz ms c id (x::l)=eN ms c id x++dz ms c id l:=rfl;rw [e,List.length_append,List.length_cons];omega
theorem Q6 {ms:dG} {c id:Int} {l:aU} {f:GL} (h:f∈dz ms c id l):∃m∈ms,∃x∈l,f=EB m.1 c x:=by
 unfold dz at h;obtain ⟨x,hx,h⟩:=List.mem_flatMap.1 h;unfold eN at h;obtain ⟨m,hm,rfl⟩:=List.mem_map.1 h;exact ⟨m,(List.mem_filter.1 hm).1,x,hx,rfl⟩
theorem LF (w:mj) (c:Int) (ms:dG) (id:Int) (l:aU) (h1:ms.length≤5) (h2:w.2.2.1.length≤1073741824-1048576) (h3:l.length≤1000):ob w.1 w.2.1 w.2.2.1 w.2.2.2.1 c ms id l=some ((fF w (w.2.2.1++dz ms c id l)).1,(fF w (w.2.2.1++dz ms c id l)).2.1,(fF w (w.2.2.1++dz ms c id l)).2.2.1,(fF w (w.2.2.1++dz ms c id l)).2.2.2.1,()):=by
 have l1:=ck (round:=iW) (e:=.inl ((fF w (w.2.2.1++dz ms c id l)).1,(fF w (w.2.2.1++dz ms c id l)).2.1,(fF w (w.2.2.1++dz ms c id l)).2.2.1,(fF w (w.2.2.1++dz ms c id l)).2.2.2.1,())) l.length (fun i=>((fF w (w.2.2.1++dz ms c id (l.take i))).1,(fF w (w.2.2.1++dz ms c id (l.take i))).2.1,(fF w (w.2.2.1++dz ms c id (l.take i))).2.2.1,(fF w (w.2.2.1++dz ms c id (l.take i))).2.2.2.1,id,l,c,ms,((i:Nat):Int),())) (by
  simp only [iW,bC,tw,eC,aN,cond_false,List.take_length]) (fun i hi=>by
  have hb:=zT ms c id h1 (l.take i);rw [List.length_take] at hb;have l2:=ck (round:=kb) (e:=.inl ((fF w (w.2.2.1++dz ms c id (l.take i)++eN ms c id l[i])).1,(fF w (w.2.2.1++dz ms c id (l.take i)++eN ms c id l[i])).2.1,(fF w (w.2.2.1++dz ms c id (l.take i)++eN ms c id l[i])).2.2.1,(fF w (w.2.2.1++dz ms c id (l.take i)++eN ms c id l[i])).2.2.2.1,id,l,c,ms,((i:Nat):Int),())) ms.length (fun k=>((fF w (w.2.2.1++dz ms c id (l.take i)++eN (ms.take k) c id l[i])).1,(fF w (w.2.2.1++dz ms c id (l.take i)++eN (ms.take k) c id l[i])).2.1,(fF w (w.2.2.1++dz ms c id (l.take i)++eN (ms.take k) c id l[i])).2.2.1,(fF w (w.2.2.1++dz ms c id (l.take i)++eN (ms.take k) c id l[i])).2.2.2.1,id,l,c,ms,((i:Nat):Int),((k:Nat):Int),())) (by
   simp only [kb,bC,tv,aw,aA,aN,cond_false,List.take_length]) (fun k hk=>by
   have M4:=EC (ms.take k) c id l[i];rw [List.length_take] at M4;have hs:=EA (fF w (w.2.2.1++dz ms c id (l.take i)++eN (ms.take k) c id l[i])) (by
    show (w.2.2.1++dz ms c id (l.take i)++eN (ms.take k) c id l[i]).length≤_;rw [List.length_append,List.length_append];omega) (EB ms[k].1 c l[i])
   have hs:eV w.1 w.2.1 (w.2.2.1++dz ms c id (l.take i)++eN (ms.take k) c id l[i]) w.2.2.2.1 1 ms[k].1 c (l[i]).1 (l[i]).2.1 (l[i]).2.2.1 (l[i]).2.2.2.1 0 0 0 0 0 [] 0 0 0 []=_:=hs;simp only [kb,bC,tv,aw,aA,aF hk,ax,cond_true,aG,List.getElem?_eq_getElem hk,List.getElem?_eq_getElem hi,Option.bind_some,aM (show k<4611686018427387904 by omega),JT ms c id l[i] hk]
   cases decide (ms[k].1=id)
   ·simp only [Bool.not_false,cond_true,fF] at hs ⊢;rw [hs];simp only [Option.bind_some,List.append_assoc]
   ·simp only [Bool.not_true,cond_false,List.append_nil])
  have l2:aJ kb ((fF w (w.2.2.1++dz ms c id (l.take i)++eN (ms.take 0) c id l[i])).1,(fF w (w.2.2.1++dz ms c id (l.take i)++eN (ms.take 0) c id l[i])).2.1,(fF w (w.2.2.1++dz ms c id (l.take i)++eN (ms.take 0) c id l[i])).2.2.1,(fF w (w.2.2.1++dz ms c id (l.take i)++eN (ms.take 0) c id l[i])).2.2.2.1,id,l,c,ms,((i:Nat):Int),(0:Int),())=_:=l2;rw [show eN (ms.take 0) c id l[i]=[] from rfl,List.append_nil] at l2;simp only [iW,bC,tw,eC,aF hi,cond_true,l2,bZ,Option.bind_some,aM (show i<4611686018427387904 by omega),O6 ms c id l hi,List.append_assoc])
 have l1:aJ iW ((fF w (w.2.2.1++dz ms c id (l.take 0))).1,(fF w (w.2.2.1++dz ms c id (l.take 0))).2.1,(fF w (w.2.2.1++dz ms c id (l.take 0))).2.2.1,(fF w (w.2.2.1++dz ms c id (l.take 0))).2.2.2.1,id,l,c,ms,(0:Int),())=_:=l1;rw [show dz ms c id (l.take 0)=[] from rfl,List.append_nil] at l1;unfold ob;have l1:aJ iW (w.1,w.2.1,w.2.2.1,w.2.2.2.1,id,l,c,ms,(0:Int),())=_:=l1;rw [l1];rfl
theorem abR (a b:Nat):Int.tmod ((a:Nat):Int) ((b:Nat):Int)=((a % b:Nat):Int):=rfl
theorem YD {c:Int} {xs:dG} (hr:lU c xs) {id:Int} (hm:(id,())∈xs):∃b,wX c xs id=some (b,())∧1≤b∧b≤5:=by
 have hl:=hr.2.1.2;have h:xs.length≤1048576:=by omega
 unfold wX;rw [(qU c xs h).1,(qU c xs h).2.2.2 hr];obtain ⟨e,he,b,rfl,hb⟩:=dt (round:=nG) (x:=(id,c,xs,((0:Nat):Int),())) xs.length (fun k x=>x=(id,c,xs,((k:Nat):Int),())∧∀j (hj:j<xs.length),j<k→xs[j].1≠id) (fun e=>∃b,e=.inr (b,())∧1≤b∧b≤5) (by
   rintro x ⟨_,g⟩
   obtain ⟨j,hj,e⟩:=List.mem_iff_getElem.1 hm;exact absurd (congrArg Prod.fst e) (g j hj hj)) (by
   rintro k x hk ⟨rfl,g⟩
   have LV:(k+1) % xs.length<xs.length:=Nat.mod_lt _ (by omega);simp only [nG,aw,Ba,aF hk,ax,cond_true,aG,List.getElem?_eq_getElem hk,Option.bind_some,aM (show k<4611686018427387904 by omega),abR,List.getElem?_eq_getElem LV,aq (show ¬((List.length xs:Nat):Int)=0 by omega),cond_false]
   by_cases e:xs[k].1=id
   ·rw [ak e];exact .inl ⟨_,rfl,_,rfl,(hr.2.2 _ LV LV).1⟩
   ·rw [aq e];refine .inr ⟨_,rfl,rfl,fun j hj NL => ?_⟩
    by_cases e2:j=k
    ·subst e2;exact e
    ·exact g j hj (by omega)) ⟨rfl,fun j _ h=>by omega⟩
 have he:aJ nG (id,c,xs,(0:Int),())=some _:=he;simp only [Option.bind_some,Bool.not_true,cond_false,he];exact ⟨b,rfl,hb⟩
theorem LG (w:mj) {c:Int} {ms:dG} (hr:lU c ms) {id:Int} (hm:(id,())∈ms) (t:kJ) (h2:w.2.2.1.length≤1073741824) (h3:t.2.2.2.2.2.1.length≤1048576):∃Cb,(1≤Cb∧Cb≤5)∧l6 w.1 w.2.1 w.2.2.1 w.2.2.2.1 c ms id t.1 t.2.1 t.2.2.1 t.2.2.2.1 t.2.2.2.2.1 t.2.2.2.2.2.1=some ((fF w (w.2.2.1++[xH Cb c t])).1,(fF w (w.2.2.1++[xH Cb c t])).2.1,(fF w (w.2.2.1++[xH Cb c t])).2.2.1,(fF w (w.2.2.1++[xH Cb c t])).2.2.2.1,()):=by
 obtain ⟨v,hv,hb⟩:=YD hr hm;have hs:=EA w h2 (xH v c t);have hs:eV w.1 w.2.1 w.2.2.1 w.2.2.2.1 2 v c 0 0 0 ByteArray.empty t.1 t.2.1 t.2.2.1 t.2.2.2.1 t.2.2.2.2.1 t.2.2.2.2.2.1 0 0 0 []=_:=hs;refine ⟨v,hb,?_⟩;unfold l6;delta aT;simp only [hv,Option.bind_some,(mf t.1 t.2.1 t.2.2.1 t.2.2.2.1 t.2.2.2.2.1 t.2.2.2.2.2.1 h3).1,hs]
end Go.TM
