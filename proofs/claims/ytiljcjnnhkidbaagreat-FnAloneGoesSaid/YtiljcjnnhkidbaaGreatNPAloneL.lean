/- A daemon alone in a ring, after some holds. -/
import Derived.Test.YtiljcjnnhkidbaaGreatNPMovesOnL
set_option linter.unusedSimpArgs false
set_option linter.unusedVariables false
namespace Go.TM
open Go
abbrev YP:Type:=List (ByteArray×Unit)
theorem aau {xs:aU} (h:BR xs) {j:Nat} (hj:j<xs.length):ey xs ((j+1:Nat):Int)=some xs[j]:=by
 have:(ey xs ((j+1:Nat):Int)).isSome=true:=by
  unfold ey;rw [List.find?_isSome];exact ⟨xs[j],List.getElem_mem hj,by rw [decide_eq_true_eq,h j hj]⟩
 obtain ⟨r,hr⟩:=Option.isSome_iff_exists.1 this;obtain ⟨m1,m2⟩:=zG hr;obtain ⟨i,hi,rfl⟩:=List.mem_iff_getElem.1 m1;rw [h i hi] at m2;have:i=j:=by omega
 subst this;exact hr
theorem Je {xs:aU} (h:BR xs) {j:Nat} (hj:j<xs.length):(mi xs ((j+1:Nat):Int)).1=((j+1:Nat):Int)∧(mi xs ((j+1:Nat):Int)).2.2.2.1=xs[j].2.2.2.1:=by
 unfold mi;rw [aau h hj];exact ⟨h j hj,rfl⟩
structure C8 (i c:Int) (X:YP) (k n:Nat) (d:bY) (t:kJ):Prop where
 g:lI n d
 id:d.1=i
 live:d.2.1=false
 ri:d.2.2.2.2.2.2.2.2.2.2.2.2.2.2.2.2.2.2.2.1=c∧d.2.2.2.2.2.2.2.2.2.2.2.2.2.2.2.2.2.2.2.2.1=0∧1≤c
 words:d.2.2.2.2.2.2.2.1=X.drop (3*k)
 from_:BR d.2.2.2.2.2.1
 len:(d.2.2.2.2.2.1).length=min (3*k) X.length
 text:∀j (hj:j<(d.2.2.2.2.2.1).length) (hx:j<X.length),(d.2.2.2.2.2.1[j]'hj).2.2.2.1=X[j].1
 round:d.2.2.2.2.2.2.2.2.1=((k:Nat):Int)
 seen:((min (3*(k-1)) X.length:Nat):Int)≤d.2.2.2.2.2.2.2.2.2.1
 line:((min (3*(k-2)) X.length:Nat):Int)≤d.2.2.2.2.2.2.2.2.2.2.1
 heard:((min (3*(k-2)) X.length:Nat):Int)≤d.2.2.2.2.2.2.2.2.2.2.2.1
 tok:t.1=c∧t.2.1=((k+1:Nat):Int)∧t.2.2.1=((min (3*k) X.length:Nat):Int)∧t.2.2.2.1=((min (3*k) X.length:Nat):Int)∧t.2.2.2.2.1=0∧t.2.2.2.2.2.1=[]
 log:d.2.2.2.2.2.2.2.2.2.2.2.1=((X.length:Nat):Int)→∃(l:List wu) (e:wu),d.2.2.2.2.2.2.2.2.2.2.2.2.2.2.2.2.2.2.2.2.2.2.2.1=l++[e]∧e.1=1∧e.2.1=c∧e.2.2.2.2.2.2.1=(X.getD (X.length-1) (ByteArray.empty,())).1
theorem Rf {i c:Int} {X:YP} (hX:1≤X.length∧X.length≤20) {k n:Nat} (hk:k<10) (hn:n≤100) {d:bY} {t:kJ} (h:C8 i c X k n d t) :
  ∃(r:bY) (said:aU) (nx:kJ),gy d.1 d.2.1 d.2.2.1 d.2.2.2.1 d.2.2.2.2.1 d.2.2.2.2.2.1 d.2.2.2.2.2.2.1 d.2.2.2.2.2.2.2.1 d.2.2.2.2.2.2.2.2.1 d.2.2.2.2.2.2.2.2.2.1 d.2.2.2.2.2.2.2.2.2.2.1 d.2.2.2.2.2.2.2.2.2.2.2.1 d.2.2.2.2.2.2.2.2.2.2.2.2.1 d.2.2.2.2.2.2.2.2.2.2.2.2.2.1 d.2.2.2.2.2.2.2.2.2.2.2.2.2.2.1 d.2.2.2.2.2.2.2.2.2.2.2.2.2.2.2.1 d.2.2.2.2.2.2.2.2.2.2.2.2.2.2.2.2.1 d.2.2.2.2.2.2.2.2.2.2.2.2.2.2.2.2.2.1 d.2.2.2.2.2.2.2.2.2.2.2.2.2.2.2.2.2.2.1 d.2.2.2.2.2.2.2.2.2.2.2.2.2.2.2.2.2.2.2.1 d.2.2.2.2.2.2.2.2.2.2.2.2.2.2.2.2.2.2.2.2.1 d.2.2.2.2.2.2.2.2.2.2.2.2.2.2.2.2.2.2.2.2.2.1 d.2.2.2.2.2.2.2.2.2.2.2.2.2.2.2.2.2.2.2.2.2.2.1 d.2.2.2.2.2.2.2.2.2.2.2.2.2.2.2.2.2.2.2.2.2.2.2.1 t.1 t.2.1 t.2.2.1 t.2.2.2.1 t.2.2.2.2.1 t.2.2.2.2.2.1=some (r.1,r.2.1,r.2.2.1,r.2.2.2.1,r.2.2.2.2.1,r.2.2.2.2.2.1,r.2.2.2.2.2.2.1,r.2.2.2.2.2.2.2.1,r.2.2.2.2.2.2.2.2.1,r.2.2.2.2.2.2.2.2.2.1,r.2.2.2.2.2.2.2.2.2.2.1,r.2.2.2.2.2.2.2.2.2.2.2.1,r.2.2.2.2.2.2.2.2.2.2.2.2.1,r.2.2.2.2.2.2.2.2.2.2.2.2.2.1,r.2.2.2.2.2.2.2.2.2.2.2.2.2.2.1,r.2.2.2.2.2.2.2.2.2.2.2.2.2.2.2.1,r.2.2.2.2.2.2.2.2.2.2.2.2.2.2.2.2.1,r.2.2.2.2.2.2.2.2.2.2.2.2.2.2.2.2.2.1,r.2.2.2.2.2.2.2.2.2.2.2.2.2.2.2.2.2.2.1,r.2.2.2.2.2.2.2.2.2.2.2.2.2.2.2.2.2.2.2.1,r.2.2.2.2.2.2.2.2.2.2.2.2.2.2.2.2.2.2.2.2.1,r.2.2.2.2.2.2.2.2.2.2.2.2.2.2.2.2.2.2.2.2.2.1,r.2.2.2.2.2.2.2.2.2.2.2.2.2.2.2.2.2.2.2.2.2.2.1,r.2.2.2.2.2.2.2.2.2.2.2.2.2.2.2.2.2.2.2.2.2.2.2.1,said,nx.1,nx.2.1,nx.2.2.1,nx.2.2.2.1,nx.2.2.2.2.1,nx.2.2.2.2.2.1,true,())∧C8 i c X (k+1) (n+1) r nx:=by
 obtain ⟨c1,c2,c3⟩:=h.ri;obtain ⟨t1,t2,t3,t4,t5,t6⟩:=h.tok;have hW:=h.g.small hn;have hq:=h.g.q;obtain ⟨m1,m2,_⟩:=BS hq (show ¬d.2.2.2.2.2.2.2.2.2.2.2.2.2.2.2.2.2.2.2.1=0 by omega);have hcr:d.2.2.2.1=c:=hq.old.1.symm.trans c1;have hc9:c≤9:=by have h1:=hq.old.2;have h2:=hq.xD.2;omega
 have hT:JL t:=⟨⟨by omega,by omega⟩,⟨by omega,by omega⟩,⟨by omega,by omega⟩,⟨by omega,by omega⟩,⟨by omega,by omega⟩,by show (t.2.2.2.2.2.1).length≤20;rw [t6];exact Nat.zero_le _,by show xB t.2.2.1 t.2.2.2.2.2.1 (t.2.2.2.2.2.1).length;rw [t6];exact fun k hk=>by cases hk⟩;obtain ⟨r,said,nx,b,_,eI,g,id,hf,ht⟩:=Ly h.g hn t (by rw [t6];exact Nat.zero_le _);have hdb:jU d=true:=(m7 d hW).2.2.2 hq;have Gx:fR d=true:=by
  unfold fR;rw [hdb,h.live,decide_eq_true (show 0<d.2.2.2.2.2.2.2.2.2.2.2.2.2.2.2.2.2.2.2.1 by omega),decide_eq_true c2];rfl
 have hmb:sW (aE d)=true:=(qX (aE d) (Nat.le_trans (Sb d) hW)).2.2.2 m1;have amf:I0 (aE d) t=true:=by
  unfold I0;have e1:t.1=(aE d).2.1:=t1.trans hcr.symm;have e2:d.2.2.2.2.2.2.2.2.1<t.2.1:=by rw [h.round];omega
  have e3:t.2.1<1000000000:=by omega
  rw [hmb,(C2 t (by show (t.2.2.2.2.2.1).length≤_;rw [t6];exact Nat.zero_le _)).2.2.2 hT,decide_eq_true e1,decide_eq_true e3];show (true&&(true&&(true&&(decide (d.2.2.2.2.2.2.2.2.1<t.2.1)&&true))))=true;rw [decide_eq_true e2];rfl
 have hb:b=true:=by
  cases b
  ·rcases (hf rfl).2 with e | e
   ·rw [Gx] at e;cases e
   ·rw [amf] at e;cases e
  ·rfl
 subst hb;obtain ⟨_,_,m,kk,hh,hr⟩:=ht rfl;refine ⟨r,said,nx,eI,?_⟩;have htx:(aE d).2.2.2.2.2.1=X.drop (3*k):=h.words;have UR:kk=min 3 (X.length-3*k):=by
  rcases hh.xD with e | e
  ·rw [e,htx,List.length_drop]
  ·have:=hh.GK.1;omega
 have hfl:=qZ t.2.2.1 (aE d).1 (aE d).2.2.2.2.1 (aE d).2.2.2.2.2.1 kk;have amg:m.2.2.2.1=d.2.2.2.2.2.1++eM t.2.2.1 (aE d).1 (aE d).2.2.2.2.1 (aE d).2.2.2.2.2.1 kk:=by
  rw [hh.items];refine I1 _ (fun f hf x hx => ?_) (JS kk);have hx:x∈d.2.2.2.2.2.1:=hx;obtain ⟨q,hq,rfl⟩:=List.mem_iff_getElem.1 hx;obtain ⟨p,hp,rfl⟩:=MN hf;have e1:=h.from_ q hq;have e2:=h.len;show _<t.2.2.1+((p+1:Nat):Int);omega
 have hlen:=h.len;have hnl:m.2.2.2.1.length=min (3*(k+1)) X.length:=by rw [amg,List.length_append,hfl];omega
 have Dn:∀q (hq:q<m.2.2.2.1.length),(m.2.2.2.1[q]'hq).1=((q+1:Nat):Int)∧∀hx:q<X.length,(m.2.2.2.1[q]'hq).2.2.2.1=X[q].1:=by
  intro q hq;have hq':q<(d.2.2.2.2.2.1++eM t.2.2.1 (aE d).1 (aE d).2.2.2.2.1 (aE d).2.2.2.2.2.1 kk).length:=by rw [←amg];exact hq
  have e0:m.2.2.2.1[q]=(d.2.2.2.2.2.1++eM t.2.2.1 (aE d).1 (aE d).2.2.2.2.1 (aE d).2.2.2.2.2.1 kk)[q]:=by congr 1
  rw [e0]
  by_cases e:q<(d.2.2.2.2.2.1).length
  ·rw [List.getElem_append_left e];exact ⟨h.from_ q e,fun hx=>h.text q e hx⟩
  ·rw [List.getElem_append_right (by omega),uS];refine ⟨?_,fun hx => ?_⟩
   ·show t.2.2.1+((q-(d.2.2.2.2.2.1).length+1:Nat):Int)=_;omega
   ·show ((aE d).2.2.2.2.2.1.getD (q-(d.2.2.2.2.2.1).length) (ByteArray.empty,())).1=_;rw [htx,List.getD_eq_getElem?_getD,List.getElem?_drop,List.getElem?_eq_getElem (show 3*k+(q-(d.2.2.2.2.2.1).length)<X.length by omega),Option.getD_some]
    congr 2
    omega
 have Pe:BR m.2.2.2.1:=fun q hq=>(Dn q hq).1
 have amh:cY m.2.2.2.1=min (3*(k+1)) X.length:=by rw [OQ Pe (by omega),hnl]
 obtain ⟨kh,m',rfl,_,es,mq',g3,g4,g5⟩:=Sg hh.nq;have hR:ch m=(yi m (m.2.2.2.2.2.2.2.2.2.1+((kh:Nat):Int)),gV m.2.2.2.1 m.2.2.2.2.2.2.2.2.2.1 kh):=by
  unfold ch;rw [es]
 have hr2:r=pC (fA (fA d m) (yi m (m.2.2.2.2.2.2.2.2.2.1+((kh:Nat):Int)))) (gV m.2.2.2.1 m.2.2.2.2.2.2.2.2.2.1 kh):=by
  rw [hr];show pC (fA (fA d m) (ch m).1) (ch m).2=_;rw [hR]
 have ami:t.2.2.1+((kk:Nat):Int)=((min (3*(k+1)) X.length:Nat):Int):=by omega
 have Yo:=hh.marks;have hd:=m1.id;rw [if_pos ⟨t4.trans t3.symm,t5⟩,t5,ami,amh] at Yo;have hmA:nx.2.2.2.1=((min (3*(k+1)) X.length:Nat):Int):=by
  rw [Yo.1];unfold En;rw [if_neg (by omega),if_neg (by omega)]
 have hmB:nx.2.2.2.2.1=0:=by
  rw [Yo.2];unfold Eo;rw [if_neg (by omega),if_neg (by omega)]
 have hnx:=hh.next;have amj:nx.2.2.2.2.2.1=[]:=by
  have hq:=hh.tq.2.2.2.2.2.2
  cases hx:nx.2.2.2.2.2.1 with
  |nil=>rfl
  |cons a l=>
   exfalso
   rw [hx] at hq;have q0:=hq 0 (by simp) (by simp);have q1:1≤a.1:=q0.1;have q2:a.1≤nx.2.2.1:=q0.2.1;have h1:=hh.Lx a.1 (by rw [hx];simp [cm]);rw [Yw Pe q1 (by omega)] at h1
   cases h1
 have amk:m.2.2.2.2.2.1=X.drop (3*(k+1)):=by
  rw [hh.words.2,htx,List.drop_drop,UR]
  by_cases e:3≤X.length-3*k
  ·congr 1;omega
  ·rw [List.drop_of_length_le (by omega),List.drop_of_length_le (by omega)]
 obtain ⟨r1,r2,r3,r4⟩:=hh.round;have as0:((min (3*(k-1)) X.length:Nat):Int)≤(aE d).2.2.2.2.2.2.2.1:=h.seen;have Yv:((min (3*(k+1-2)) X.length:Nat):Int)≤m.2.2.2.2.2.2.2.2.1:=by
  have:=hh.reach ((min (3*(k-1)) X.length:Nat):Int) as0 (by omega) (by rw [amh];omega);have e:k+1-2=k-1:=by omega
  rw [e];exact this
 have Jl:m.2.2.2.2.2.2.2.2.2.1+((kh:Nat):Int)≤((X.length:Nat):Int):=by omega
 have h0:=hh.nq.heard.1;obtain ⟨v,hv⟩:=Int.eq_ofNat_of_zero_le h0;have ahn:((min (3*(k+1-2)) X.length:Nat):Int)≤m.2.2.2.2.2.2.2.2.2.1+((kh:Nat):Int):=by
  by_cases dO:m.2.2.2.2.2.2.2.2.2.1+((kh:Nat):Int)<((cY m.2.2.2.1:Nat):Int)
  ·obtain ⟨_,w2⟩:=g5 dO;have hx:v+kh<m.2.2.2.1.length:=by omega
   have e1:=(Je Pe hx).1;have e2:m.2.2.2.2.2.2.2.2.2.1+((kh+1:Nat):Int)=((v+kh+1:Nat):Int):=by omega
   rw [e2,e1] at w2;omega
  ·omega
 have as1:m.2.2.2.2.2.2.2.2.2.1+((kh:Nat):Int)=((X.length:Nat):Int)→∃(l:List wu) (e:wu),d.2.2.2.2.2.2.2.2.2.2.2.2.2.2.2.2.2.2.2.2.2.2.2.1++fE m.2.1 m.2.2.1 (gV m.2.2.2.1 m.2.2.2.2.2.2.2.2.2.1 kh)=l++[e]∧e.1=1∧e.2.1=c∧e.2.2.2.2.2.2.1=(X.getD (X.length-1) (ByteArray.empty,())).1:=by
  intro q8
  cases kh with
  |zero=>
   obtain ⟨l,e,q1,q2⟩:=h.log (by
    have r4:m.2.2.2.2.2.2.2.2.2.1=d.2.2.2.2.2.2.2.2.2.2.2.1:=r4;omega)
   refine ⟨l,e,?_,q2⟩;rw [q1];show l++[e]++fE m.2.1 m.2.2.1 []=_;exact List.append_nil _
  |succ j=>
   rw [sX];have hx:X.length-1<m.2.2.2.1.length:=by omega
   have e2:m.2.2.2.2.2.2.2.2.2.1+((j+1:Nat):Int)=((X.length-1+1:Nat):Int):=by omega
   rw [e2];refine ⟨d.2.2.2.2.2.2.2.2.2.2.2.2.2.2.2.2.2.2.2.2.2.2.2.1++fE m.2.1 m.2.2.1 (gV m.2.2.2.1 m.2.2.2.2.2.2.2.2.2.1 j),(1,m.2.1,m.2.2.1,(mi m.2.2.2.1 ((X.length-1+1:Nat):Int)).1,(mi m.2.2.2.1 ((X.length-1+1:Nat):Int)).2.1,(mi m.2.2.2.1 ((X.length-1+1:Nat):Int)).2.2.1,(mi m.2.2.2.1 ((X.length-1+1:Nat):Int)).2.2.2.1,[],()),?_,rfl,hh.id.2.1.trans hcr,?_⟩
   ·unfold fE;rw [List.map_append,List.append_assoc];rfl
   ·show (mi m.2.2.2.1 ((X.length-1+1:Nat):Int)).2.2.2.1=_;rw [(Je Pe hx).2,(Dn _ hx).2 (by omega),List.getD_eq_getElem?_getD,List.getElem?_eq_getElem (show X.length-1<X.length by omega),Option.getD_some]
 subst hr2;exact {
  g:=g
  id:=h.id
  live:=h.live
  ri:=⟨c1,c2,c3⟩
  words:=amk
  from_:=Pe
  len:=hnl
  text:=fun j hj hx=>(Dn j hj).2 hx
  round:=r1.trans t2
  seen:=by
   show _≤m.2.2.2.2.2.2.2.1;rw [r2,t4];exact Int.le_refl _
  line:=Yv
  heard:=ahn
  tok:=⟨hnx.1.trans t1,by rw [hnx.2.1,t2];omega,by rw [hnx.2.2,ami],hmA,hmB,amj⟩
  log:=as1 }
end Go.TM
