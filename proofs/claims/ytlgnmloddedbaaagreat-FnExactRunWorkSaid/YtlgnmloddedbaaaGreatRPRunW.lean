/- RunWork, of the program and of the reference, of any ring and any events. -/
import Derived.Test.YtlgnmloddedbaaaGreatRPQuiL
set_option linter.unusedSimpArgs false
set_option linter.unusedVariables false
namespace Go.TM
open Go
theorem Hd {X E:Type} {round:X→Option (Sum X E)} {s s':X} {x:E} (h:round s=some (.inl s')) (hx:aG round s'=some x):aG round s=some x:=by
 rw [iL,h];exact hx
theorem He {X E:Type} {round:X→Option (Sum X E)} {s:X} {x:E} (h:round s=some (.inr x)):aG round s=some x:=by
 rw [iL,h]
theorem It {c:Int} {ms:dF} (hr:qt c ms):jZ c ms=some ((j4 c ms (ms[0]'hr.2.1.1).1).1,(j4 c ms (ms[0]'hr.2.1.1).1).2.1,(j4 c ms (ms[0]'hr.2.1.1).1).2.2.1,(j4 c ms (ms[0]'hr.2.1.1).1).2.2.2.1,(j4 c ms (ms[0]'hr.2.1.1).1).2.2.2.2.1,(j4 c ms (ms[0]'hr.2.1.1).1).q.1,true,()):=by
 have hl:=hr.2.1.2;have MH:=hr.2.1.1;have h:ms.length≤1048576:=by omega
 have r1:=(ig c ms h).2.1;rw [(ig c ms h).2.2.2 hr] at r1;have l1:=bD (round:=iB) (e:=.inl (c,ms,(0:Int),[],[],[],[],[],c,ms,ms.map fun m=>qR c ms m.1,[],List.replicate ms.length ([],()),[],())) ms.length (fun k=>(c,ms,(0:Int),[],[],[],[],[],c,ms,(ms.take k).map fun m=>qR c ms m.1,[],List.replicate ms.length ([],()),[],ms,((List.length ms:Nat):Int),((k:Nat):Int),())) (by
  simp only [iB,p7,aC,cond_false,List.take_length]) (fun k hk=>by
  simp only [iB,p7,ax hk,ak,cond_true,az,List.getElem?_eq_getElem hk,Option.bind_some,Il c ms ms[k].1 h r1 (List.getElem_mem hk),List.length_map,List.length_take,Nat.min_eq_left (Nat.le_of_lt hk),aJ (show (k+1)*208≤lim by unfold lim;omega),aE (show k<4611686018427387904 by omega)];rw [map_take _ _ hk];rfl)
 have l1:aG iB (c,ms,(0:Int),[],[],[],[],[],c,ms,[],[],List.replicate ms.length ([],()),[],ms,((List.length ms:Nat):Int),(0:Int),())=_:=l1;have hf:mq c ms=some (c,1,0,0,0,[],()):=by unfold mq;rw [r1];rfl
 unfold jZ;simp only [r1,Option.bind_some,Bool.not_true,cond_false,cond_true,FX c ms h,af rfl,ak,az,aJ (show ms.length*24≤lim by unfold lim;omega),cX,l1,bO,List.getElem?_eq_getElem (show 0<ms.length by omega),hf];rfl
theorem PG {c:Int} {ms:dF} (hr:qt c ms) (jK:List Bq) (hl:jK.length≤90) (he:∀e∈jK,Mm ms e) (P:bt→Prop) (h0:P (j4 c ms (ms[0]'hr.2.1.1).1))
  (hs:∀n w w' e,n<jK.length→e∈jK→fZ n c ms w→fZ (n+1) c ms w'→P w→Step w e w'→P w') :
  ∃(w:bt) (kq:dF),gD c ms jK=some (w.1,w.2.1,w.2.2.1,w.2.2.2.1,w.2.2.2.2.1,w.q.1,kq,true,())∧jX c ms jK=some (w.1,w.2.1,w.2.2.1,w.2.2.2.1,w.2.2.2.2.1,w.q.1,kq,true,())∧kq.length=jK.length∧fZ jK.length c ms w∧P w:=by
 generalize hw0:j4 c ms (ms[0]'hr.2.1.1).1=w0 at h0;have hW0:fZ 0 c ms w0:=by rw [←hw0];exact Mo hr _
 have e0:eM c ms=some (w0.1,w0.2.1,w0.2.2.1,w0.2.2.2.1,w0.2.2.2.2.1,w0.q.1,true,()):=by rw [←hw0];exact Da hr
 have i0:jZ c ms=some (w0.1,w0.2.1,w0.2.2.1,w0.2.2.2.1,w0.2.2.2.2.1,w0.q.1,true,()):=by rw [←hw0];exact It hr
 have l1:=bD (round:=cr) (e:=.inl (jK,(0:Int),[],[],[],[],[],w0.1,w0.2.1,w0.2.2.1,w0.2.2.2.1,w0.2.2.2.2.1,w0.q.1,true,())) jK.length (fun k=>(jK,c,ms,(0:Int),[],[],[],[],[],w0.1,w0.2.1,w0.2.2.1,w0.2.2.2.1,w0.2.2.2.2.1,w0.q.1,true,((k:Nat):Int),())) (by
  simp only [cr,gm,aC,cond_false]) (fun k hk=>by
  simp only [cr,gm,ax hk,cond_true,af (show ((List.length jK:Nat):Int)≤90 by omega),ak,az,List.getElem?_eq_getElem hk,Option.bind_some,jU hr (he _ (List.getElem_mem hk)),aE (show k<4611686018427387904 by omega)])
 have l1:aG cr (jK,c,ms,(0:Int),[],[],[],[],[],w0.1,w0.2.1,w0.2.2.1,w0.2.2.2.1,w0.2.2.2.2.1,w0.q.1,true,(0:Int),())=_:=l1;have m1:=bD (round:=dD) (e:=.inl (jK,c,ms,(0:Int),[],[],[],[],[],())) jK.length (fun k=>(jK,c,ms,(0:Int),[],[],[],[],[],jK,((List.length jK:Nat):Int),((k:Nat):Int),())) (by
  simp only [dD,km,aC,cond_false]) (fun k hk=>by
  simp only [dD,km,ax hk,cond_true,ak,az,List.getElem?_eq_getElem hk,Option.bind_some,PF hr (he _ (List.getElem_mem hk)),aE (show k<4611686018427387904 by omega),Bool.not_true,cond_false])
 have m1:aG dD (jK,c,ms,(0:Int),[],[],[],[],[],jK,((List.length jK:Nat):Int),(0:Int),())=_:=m1;have key:∀k,k≤jK.length→∃(w:bt) (kq:dF),kq.length=k∧fZ k c ms w∧P w∧
   (∀x,aG iA (jK,(0:Int),[],[],[],[],[],w.1,w.2.1,w.2.2.1,w.2.2.2.1,w.2.2.2.2.1,w.q.1,kq,((k:Nat):Int),())=some x→aG iA (jK,(0:Int),[],[],[],[],[],w0.1,w0.2.1,w0.2.2.1,w0.2.2.2.1,w0.2.2.2.2.1,w0.q.1,[],(0:Int),())=some x)∧
   (∀x,aG iE ((0:Int),[],[],[],[],[],w.1,w.2.1,w.2.2.1,w.2.2.2.1,w.2.2.2.2.1,w.q.1,kq,jK,((List.length jK:Nat):Int),((k:Nat):Int),())=some x→aG iE ((0:Int),[],[],[],[],[],w0.1,w0.2.1,w0.2.2.1,w0.2.2.2.1,w0.2.2.2.2.1,w0.q.1,[],jK,((List.length jK:Nat):Int),(0:Int),())=some x):=by
  intro k
  induction k with
  |zero=>exact fun _=>⟨w0,[],rfl,hW0,h0,fun x h=>h,fun x h=>h⟩
  |succ k ih=>
   intro hk;obtain ⟨w,kq,q,hw,hp,g1,g2⟩:=ih (by omega);have hk:k<jK.length:=hk;obtain ⟨b,w',e1,hw',ue⟩:=UF hw (by omega) (he _ (List.getElem_mem hk));have hm:Mm w.2.1 jK[k]:=by rw [hw.self.2];exact he _ (List.getElem_mem hk)
   obtain ⟨b2,w2,e2,e3,_,pz⟩:=UI hw.x (by omega) hm;have e4:some (b,w')=some (b2,w2):=e1.symm.trans e2;injection e4 with e4;injection e4 with e4 e5;subst e4 e5;refine ⟨w',kq++[(b,())],by rw [List.length_append,q];rfl,hw',hs k w w' jK[k] hk (List.getElem_mem hk) hw hw' hp pz,fun x hx=>g1 x ?_,fun x hx=>g2 x ?_⟩
   ·refine Hd (s':=(jK,(0:Int),[],[],[],[],[],w'.1,w'.2.1,w'.2.2.1,w'.2.2.2.1,w'.2.2.2.2.1,w'.q.1,kq++[(b,())],((k+1:Nat):Int),())) ?_ hx;simp only [iA,p6,ax hk,cond_true,ak,az,List.getElem?_eq_getElem hk,Option.bind_some,e1,aJ (show (kq.length+1)*8≤lim by rw [q];unfold lim;omega),aE (show k<4611686018427387904 by omega)]
   ·refine Hd (s':=((0:Int),[],[],[],[],[],w'.1,w'.2.1,w'.2.2.1,w'.2.2.2.1,w'.2.2.2.2.1,w'.q.1,kq++[(b,())],jK,((List.length jK:Nat):Int),((k+1:Nat):Int),())) ?_ hx;simp only [iE,qc,ax hk,cond_true,ak,az,List.getElem?_eq_getElem hk,Option.bind_some,e3,aJ (show (kq.length+1)*8≤lim by rw [q];unfold lim;omega),aE (show k<4611686018427387904 by omega)]
 obtain ⟨w,kq,q,hw,hp,g1,g2⟩:=key _ (Nat.le_refl _);have l2:=g1 (.inl ((0:Int),[],[],[],[],[],w.1,w.2.1,w.2.2.1,w.2.2.2.1,w.2.2.2.2.1,w.q.1,kq,())) (He (by simp only [iA,p6,aC,cond_false]));have m2:=g2 (.inl ((0:Int),[],[],[],[],[],w.1,w.2.1,w.2.2.1,w.2.2.2.1,w.2.2.2.2.1,w.q.1,kq,())) (He (by simp only [iE,qc,aC,cond_false]));refine ⟨w,kq,?_,?_,q,hw,hp⟩
 ·unfold gD;simp only [ai (show ¬(90:Int)<((List.length jK:Nat):Int) by omega),cond_false,m1,bO,i0,Option.bind_some,Bool.not_true,m2]
 ·unfold jX;simp only [e0,Option.bind_some,l1,bO,Bool.not_true,cond_false,l2,Su hw (by omega)]
noncomputable def vZ (c:Int) (ms:dF) (e:Bq):Bool:=lB c ms&&((decide (1≤e.1)&&decide (e.1≤7))&&(decide ((e.2.1,())∈ms)&&(!decide (e.2.2.1<0) &&
 (bif decide (e.1=1) then (decide (1≤e.2.2.2.1)&&decide (e.2.2.2.1≤2))&&decide (((ByteArray.size e.2.2.2.2.1:Nat):Int)≤60) else decide (e.2.2.2.1=0)&&kM e.2.2.2.2.1 (ByteArray.mk #[])))))
theorem Hf (c:Int) (ms:dF) (hl:ms.length≤1048576) (e:Bq):mR c ms e.1 e.2.1 e.2.2.1 e.2.2.2.1 e.2.2.2.2.1=some (vZ c ms e,())∧mS c ms e.1 e.2.1 e.2.2.1 e.2.2.2.1 e.2.2.2.2.1=some (vZ c ms e,()):=by
 constructor
 ·unfold mR vZ;simp only [(ig c ms hl).1,n5,Bg ms e.2.1 hl,Option.bind_some]
  cases lB c ms
  ·rfl
  cases (decide (1≤e.1)&&decide (e.1≤7))
  ·rfl
  cases decide ((e.2.1,())∈ms)
  ·rfl
  cases decide (e.2.2.1<0)
  case true=>rfl
  cases decide (e.1=1)
  ·cases decide (e.2.2.2.1=0)<;>rfl
  ·cases (decide (1≤e.2.2.2.1)&&decide (e.2.2.2.1≤2))<;>rfl
 ·unfold mS vZ;simp only [sn,H8 ms e.2.1 hl,(ig c ms hl).2.1,Kr,Option.bind_some]
  cases (decide (1≤e.1)&&decide (e.1≤7))
  ·cases lB c ms<;>rfl
  cases decide ((e.2.1,())∈ms)
  ·cases lB c ms<;>rfl
  cases decide (e.2.2.1<0)
  case true=>cases lB c ms<;>rfl
  cases lB c ms
  ·rfl
  cases decide (e.1=1)<;>rfl
theorem Sz {c:Int} {ms:dF} (hl:ms.length≤1048576) {e:Bq} (h:vZ c ms e=true):Mm ms e:=by
 unfold vZ at h;simp only [Bool.and_eq_true,Bool.not_eq_true',decide_eq_true_eq,decide_eq_false_iff_not] at h;obtain ⟨_,⟨h2,h3⟩,h4,h5,h6⟩:=h;refine ⟨⟨h2,h3⟩,h4,by omega,fun e1 => ?_,fun e1 => ?_⟩
 ·rw [af e1] at h6;simp only [cond_true,Bool.and_eq_true,decide_eq_true_eq] at h6;exact ⟨⟨h6.1.1,h6.1.2⟩,by omega⟩
 ·rw [ai e1] at h6;simp only [cond_false,Bool.and_eq_true,decide_eq_true_eq] at h6;exact ⟨h6.1,(GH.1 h6.2).trans rfl⟩
def PH (w:bt):Prop:=(∀f∈w.2.2.2.1,ByteArray.size f.q.q.2.1≤60)∧∀h∈w.2.2.2.2.1,∀x∈h.1,ByteArray.size x.2.2.2.1≤60
theorem Ks {ms:List eb} {id:Int} {l:aS} (h:∀x∈l,ByteArray.size x.2.2.2.1≤60):∀f∈de ms id l,ByteArray.size f.q.q.2.1≤60:=fun f hf=>by
 obtain ⟨m,_,x,hx,_,rfl⟩:=xY hf;exact h x hx
theorem SA {w w':bt} {f:mh} (hm:∀m∈w.2.2.1,pr m) (h:PH w) (hc:Came w f w'):PH w':=by
 cases hc with
 |no=>exact h
 |Sx k hk yw ht=>exact h
 |held k hk yw ht m' said i nx hT hr H=>
  have hm:=hm _ (List.getElem_mem hk);refine ⟨fun g hg => ?_,h.2⟩;have hg:g∈(w.2.2.2.1++de (w.2.2.1.set k m') f.1 said)++[ff (il w.1 w.2.1 f.1) nx]:=hg;rcases List.mem_append.1 hg with hg | hg
  ·rcases List.mem_append.1 hg with hg | hg
   ·exact h.1 g hg
   ·refine Ks (fun x hx => ?_) g hg;rw [H.said] at hx;rcases List.mem_append.1 hx with hx | hx
    ·exact (q9 hm.items x (Fe hx)).2.2.2
    ·exact (xB ⟨hT.2.2.1.1,H.wv.2.2⟩ hm.id H.wv.2.1 hm.short x hx).2.2.2
  ·rw [List.mem_singleton] at hg;subst hg;exact Nat.zero_le _
theorem SB {w w':bt} {e:Bq} (hm:∀m∈w.2.2.1,pr m) (h:PH w) (hs:Step w e w'):PH w':=by
 cases hs with
 |same=>exact h
 |ZU k hk yw h1=>exact h
 |aft k hk nk j hj hw=>
  have hm:=hm _ (List.getElem_mem hk);refine ⟨h.1,fun g hg x hx => ?_⟩;have hg:g∈w.2.2.2.2.1.set k ((w.2.2.2.2.1[k]).1++ji (w.2.2.1[k]).2.2.2.1 (w.2.2.1[k]).q.2.2.2.2.1 j,()):=hg;rcases List.mem_or_eq_of_mem_set hg with hg | rfl
  ·exact h.2 g hg x hx
  ·rcases List.mem_append.1 hx with hx | hx
   ·exact h.2 _ (List.getElem_mem nk) x hx
   ·obtain ⟨i,_,rfl⟩:=List.mem_map.1 hx;exact F0 hm.items _
 |again k hk hb=>
  have hm:=hm _ (List.getElem_mem hk);refine ⟨fun g hg => ?_,h.2⟩;have hg:g∈w.2.2.2.1++[ff (il w.1 w.2.1 (w.2.2.1[k]).1) (ie w.2.2.1[k])]++de w.2.2.1 (w.2.2.1[k]).1 (Fl w.2.2.1[k]):=hg;rcases List.mem_append.1 hg with hg | hg
  ·rcases List.mem_append.1 hg with hg | hg
   ·exact h.1 g hg
   ·rw [List.mem_singleton] at hg;subst hg;exact Nat.zero_le _
  ·exact Ks (fun x hx=>(q9 hm.items x (List.mem_filter.1 hx).1).2.2.2) g hg
 |dup j hj=>
  refine ⟨fun g hg => ?_,h.2⟩;have hg:g∈w.2.2.2.1++[w.2.2.2.1[j]]:=hg;rcases List.mem_append.1 hg with hg | hg
  ·exact h.1 g hg
  ·rw [List.mem_singleton] at hg;subst hg;exact h.1 _ (List.getElem_mem hj)
 |drop j hj=>
  refine ⟨fun g hg => ?_,h.2⟩;have hg:g∈w.2.2.2.1.take j++w.2.2.2.1.drop (j+1):=hg;rcases List.mem_append.1 hg with hg | hg
  ·exact h.1 g (List.mem_of_mem_take hg)
  ·exact h.1 g (List.mem_of_mem_drop hg)
 |afu j hj w' hc=>
  refine SA (w:=iV w (w.2.2.2.1.take j++w.2.2.2.1.drop (j+1))) hm ⟨fun g hg => ?_,h.2⟩ hc;have hg:g∈w.2.2.2.1.take j++w.2.2.2.1.drop (j+1):=hg;rcases List.mem_append.1 hg with hg | hg
  ·exact h.1 g (List.mem_of_mem_take hg)
  ·exact h.1 g (List.mem_of_mem_drop hg)
def Mt (w:bt):Nat:=(List.length w.2.1+wl mW w.2.1)+(List.length w.2.2.1+wl aD w.2.2.1)+(List.length w.2.2.2.1+wl a6 w.2.2.2.1)+(List.length w.2.2.2.2.1+wl dK w.2.2.2.2.1)+(List.length w.q.1+wl dA w.q.1)
theorem PI {n:Nat} {c:Int} {ms:dF} {w:bt} (h:fZ n c ms w) (hn:n≤90) (ht:PH w):Mt w≤268435456:=by
 obtain ⟨q0,q1,q2⟩:=h.Dp;have w0:=ns mW (fun _=>rfl) w.2.1;have w1:=Bh aD 5000 w.2.2.1 (fun m hm=>(h.pw m hm).1.small);have w2:=Bh a6 80 w.2.2.2.1 (fun f hf=>by
  have h1:=(h.Bn f hf).wv;have h2:=ht.1 f hf;have h3:=ns mW (fun _=>rfl) f.q.2.2.1;have e:a6 f=(f.q.2.2.1.length+wl mW f.q.2.2.1)+ByteArray.size f.q.q.2.1:=rfl;omega)
 have w3:=Bh dK 400000 w.2.2.2.2.1 (fun x hx=>by
  have h1:=h.list x hx;have h2:=Bh dA 60 x.1 (ht.2 x hx);have e:dK x=x.1.length+wl dA x.1:=rfl;omega)
 have w4:=Bh dA 60 w.q.1 (fun x hx=>(h.said.1 x hx).2.2.2);have h1:=h.wv;have h2:=h.said.2;have h3:=h.heard;unfold Mt;omega
theorem SC {c:Int} {ms:dF} (hl:ms.length≤1048576) (hb:lB c ms=false):eM c ms=some (0,[],[],[],[],[],false,()):=by
 unfold eM;simp only [(ig c ms hl).1,hb,Option.bind_some,Bool.not_false,cond_true]
theorem SD {c:Int} {ms:dF} (hl:ms.length≤1048576) (hb:lB c ms=false):jZ c ms=some (0,[],[],[],[],[],false,()):=by
 unfold jZ;simp only [(ig c ms hl).2.1,hb,Option.bind_some,Bool.not_false,cond_true,cX]
theorem SE (c:Int) (ms:dF) (hl:ms.length≤1048576) (jK:List Bq) (hev:jK.length≤1048576):∃(u:bt) (kq:dF) (b:Bool),jX c ms jK=some (u.1,u.2.1,u.2.2.1,u.2.2.2.1,u.2.2.2.2.1,u.q.1,kq,b,())∧gD c ms jK=some (u.1,u.2.1,u.2.2.1,u.2.2.2.1,u.2.2.2.2.1,u.q.1,kq,b,())∧Mt u≤268435456∧kq.length≤1048576:=by
 by_cases ZW:lB c ms=true∧jK.length≤90∧∀j (hj:j<jK.length),vZ c ms jK[j]=true
 ·obtain ⟨g1,g2,g3⟩:=ZW;have hr:=(ig c ms hl).2.2.1 g1;obtain ⟨w,kq,e1,e2,e3,hW,hT⟩:=PG hr jK g2 (fun e he=>by
   obtain ⟨j,hj,rfl⟩:=List.mem_iff_getElem.1 he;exact Sz hl (g3 j hj)) PH ⟨fun f hf=>by
    have hf:f∈[ff (ms[0]'hr.2.1.1).1 (Br c)]:=hf;rw [List.mem_singleton] at hf;subst hf;exact Nat.zero_le _,fun h hh x hx=>by
    have hh:h∈List.replicate ms.length (([]:aS),()):=hh;rw [(List.mem_replicate.1 hh).2] at hx
    cases hx⟩ (fun n w w' e _ _ h1 _ h3 h4=>SB (fun m hm=>(h1.pw m hm).1) h3 h4)
  exact ⟨w,kq,true,e2,e1,PI hW g2 hT,by omega⟩
 ·refine ⟨(0,[],[],[],[],[],()),[],false,?_,?_,by decide,Nat.zero_le _⟩
  ·obtain ⟨w0,e0⟩:∃w0:bt,eM c ms=some (w0.1,w0.2.1,w0.2.2.1,w0.2.2.2.1,w0.2.2.2.2.1,w0.q.1,lB c ms,()):=by
    cases hb:lB c ms
    ·exact ⟨(0,[],[],[],[],[],()),SC hl hb⟩
    ·exact ⟨_,Da ((ig c ms hl).2.2.1 hb)⟩
   obtain ⟨e,he,b,rfl,rfl⟩:=dw (round:=cr) (x:=(jK,c,ms,(0:Int),[],[],[],[],[],w0.1,w0.2.1,w0.2.2.1,w0.2.2.2.1,w0.2.2.2.2.1,w0.q.1,lB c ms,((0:Nat):Int),())) jK.length
    (fun k x=>∃b,x=(jK,c,ms,(0:Int),[],[],[],[],[],w0.1,w0.2.1,w0.2.2.1,w0.2.2.2.1,w0.2.2.2.2.1,w0.q.1,b,((k:Nat):Int),())∧(b=true↔lB c ms=true∧(k=0∨jK.length≤90)∧∀j (hj:j<jK.length),j<k→vZ c ms jK[j]=true))
    (fun e=>∃b,e=.inl (jK,(0:Int),[],[],[],[],[],w0.1,w0.2.1,w0.2.2.1,w0.2.2.2.1,w0.2.2.2.2.1,w0.q.1,b,())∧b=false) (by
     rintro x ⟨b,rfl,hb⟩
     refine ⟨.inl (jK,(0:Int),[],[],[],[],[],w0.1,w0.2.1,w0.2.2.1,w0.2.2.2.1,w0.2.2.2.2.1,w0.q.1,b,()),by simp only [cr,gm,aC,cond_false],b,rfl,?_⟩
     cases b
     ·rfl
     ·obtain ⟨h1,h2,h3⟩:=hb.1 rfl;exact absurd ⟨h1,by omega,fun j hj=>h3 j hj hj⟩ ZW) (by
     rintro k x hk ⟨b,rfl,hb⟩
     cases b
     ·exact .inl ⟨.inl (jK,(0:Int),[],[],[],[],[],w0.1,w0.2.1,w0.2.2.1,w0.2.2.2.1,w0.2.2.2.2.1,w0.q.1,false,()),by simp only [cr,gm,ax hk,cond_true,cond_false],false,rfl,rfl⟩
     ·obtain ⟨h1,h2,h3⟩:=hb.1 rfl
      by_cases h90:jK.length≤90
      ·refine .inr ⟨(jK,c,ms,(0:Int),[],[],[],[],[],w0.1,w0.2.1,w0.2.2.1,w0.2.2.2.1,w0.2.2.2.2.1,w0.q.1,vZ c ms jK[k],((k+1:Nat):Int),()),by
        simp only [cr,gm,ax hk,cond_true,af (show ((List.length jK:Nat):Int)≤90 by omega),ak,az,List.getElem?_eq_getElem hk,Option.bind_some,(Hf c ms hl jK[k]).1,aE (show k<4611686018427387904 by omega)],_,rfl,?_⟩
       constructor
       ·intro ht;refine ⟨h1,.inr h90,fun j hj x8 => ?_⟩
        by_cases e:j<k
        ·exact h3 j hj e
        ·have:j=k:=by omega
         subst this;exact ht
       ·intro h;exact h.2.2 k hk (Nat.lt_succ_self k)
      ·refine .inr ⟨(jK,c,ms,(0:Int),[],[],[],[],[],w0.1,w0.2.1,w0.2.2.1,w0.2.2.2.1,w0.2.2.2.2.1,w0.q.1,false,((k+1:Nat):Int),()),by
        simp only [cr,gm,ax hk,cond_true,ai (show ¬((List.length jK:Nat):Int)≤90 by omega),cond_false,aE (show k<4611686018427387904 by omega)],_,rfl,?_⟩
       constructor
       ·intro h;cases h
       ·intro h;rcases h.2.1 with h | h
        ·cases h
        ·exact absurd h h90) ⟨_,rfl,⟨fun h=>⟨h,.inl rfl,fun j hj h=>by omega⟩,fun h=>h.1⟩⟩
   have he:aG cr (jK,c,ms,(0:Int),[],[],[],[],[],w0.1,w0.2.1,w0.2.2.1,w0.2.2.2.1,w0.2.2.2.2.1,w0.q.1,lB c ms,(0:Int),())=_:=he;unfold jX;simp only [e0,Option.bind_some,he,bO,Bool.not_false,cond_true]
  ·unfold gD
   by_cases h90:90<jK.length
   ·simp only [af (show (90:Int)<((List.length jK:Nat):Int) by omega),cond_true]
   obtain ⟨e,he,hq⟩:=dw (round:=dD) (x:=(jK,c,ms,(0:Int),[],[],[],[],[],jK,((List.length jK:Nat):Int),((0:Nat):Int),())) jK.length
    (fun k x=>x=(jK,c,ms,(0:Int),[],[],[],[],[],jK,((List.length jK:Nat):Int),((k:Nat):Int),())∧∀j (hj:j<jK.length),j<k→vZ c ms jK[j]=true)
    (fun e=>(e=.inl (jK,c,ms,(0:Int),[],[],[],[],[],())∧∀j (hj:j<jK.length),vZ c ms jK[j]=true)∨e=.inr ((0:Int),[],[],[],[],[],[],false,())) (by
     rintro x ⟨rfl,g⟩
     exact ⟨.inl (jK,c,ms,(0:Int),[],[],[],[],[],()),by simp only [dD,km,aC,cond_false],.inl ⟨rfl,fun j hj=>g j hj hj⟩⟩) (by
     rintro k x hk ⟨rfl,g⟩
     simp only [dD,km,ax hk,cond_true,ak,az,List.getElem?_eq_getElem hk,Option.bind_some,(Hf c ms hl jK[k]).2,aE (show k<4611686018427387904 by omega)]
     cases ht:vZ c ms jK[k]
     ·exact .inl ⟨_,rfl,.inr rfl⟩
     ·refine .inr ⟨_,rfl,rfl,fun j hj x8 => ?_⟩
      by_cases e:j<k
      ·exact g j hj e
      ·have:j=k:=by omega
       subst this;exact ht) ⟨rfl,fun j hj h=>by omega⟩
   have he:aG dD (jK,c,ms,(0:Int),[],[],[],[],[],jK,((List.length jK:Nat):Int),(0:Int),())=some e:=he;simp only [ai (show ¬(90:Int)<((List.length jK:Nat):Int) by omega),cond_false,he];rcases hq with ⟨rfl,g⟩ | rfl
   ·have hb:lB c ms=false:=by
     cases hb:lB c ms
     ·rfl
     ·exact absurd ⟨hb,by omega,g⟩ ZW
    simp only [bO,SD hl hb,Option.bind_some,Bool.not_false,cond_true]
   ·simp only [bO,Option.bind_some]
end Go.TM
set_option linter.unusedSimpArgs false
set_option linter.unusedVariables false
namespace Go.TM
open Go
theorem Iu (hJ:Int) (bV:aH) (dJ:bJ) (h0:(List.length bV+wl mW bV)≤1048576) (h1:(List.length dJ+wl kU dJ)≤1048576):∃o0 o1 o2 o3 o4 o5 o6 o7,jX hJ bV dJ=some (o0,o1,o2,o3,o4,o5,o6,o7,())∧gD hJ bV dJ=some (o0,o1,o2,o3,o4,o5,o6,o7,())∧(List.length o1+wl mW o1)+(List.length o2+wl aD o2)+(List.length o3+wl a6 o3)+(List.length o4+wl dK o4)+(List.length o5+wl dA o5)≤268435456∧(List.length o6+wl mW o6)≤268435456:=by
 obtain ⟨u,kq,b,k1,k2,k3,k4⟩:=SE hJ bV (by omega) dJ (by omega);have w0:=ns mW (fun _=>rfl) kq;exact ⟨_,_,_,_,_,_,_,_,k1,k2,k3,by omega⟩
end Go.TM
set_option linter.unusedSimpArgs false
set_option linter.unusedVariables false
namespace Go.TM
open Go
theorem Kt (sm:Int) (lA:aH) (fP:bJ) (Jn:RZ (sm,lA,())) (N9:List.length fP≤9223372036854775807∧∀y∈fP,Dz y):lX sm lA fP=some (true,()):=by
 unfold lX;obtain ⟨m0,e0,l0,w0⟩:=Ue sm lA (left:=1048576) Jn (by omega) (by omega);rw [e0];simp only [Option.bind_some]
 by_cases hm0:m0<0
 ·rw [af hm0];rfl
 have w0:0≤m0→(((List.length lA+wl mW lA):Nat):Int)+m0≤1048576:=w0;have w0:=w0 (by omega);rw [ai hm0];simp only [cond_false];have ZX:(List.length lA+wl mW lA)≤1048576:=by omega
 obtain ⟨m1,e1,l1,w1⟩:=R0 fP (left:=m0) N9 (by omega) (by omega);rw [e1];simp only [Option.bind_some]
 by_cases hm1:m1<0
 ·rw [af hm1];rfl
 have w1:=w1 (by omega);rw [ai hm1];simp only [cond_false];have ZY:(List.length fP+wl kU fP)≤1048576:=by omega
 obtain ⟨o0,o1,o2,o3,o4,o5,o6,o7,ru,him,aly,alz⟩:=Iu sm lA fP ZX ZY;obtain ⟨afv,ZZ,Z0,alA⟩:=Ni sm lA (1) (by omega) (by omega);have ZZ:kE sm lA (1:Int)=some (((1+1*List.length lA:Nat):Int),afv,()):=ZZ;have Z0:mf sm afv (1:Int)=some (((1+1*List.length lA:Nat):Int),()):=Z0;obtain ⟨aqP,alB,alC⟩:=R6 fP (1+1*List.length lA) (by omega) (by omega);obtain ⟨afw,afx,afy,afz,afA,Z1,Z2,alD,alE,alF,alG,alH⟩:=Ut o0 o1 o2 o3 o4 o5 (1) (by omega) (by omega) (by omega) (by omega) (by omega) (by omega);have Z1:me o0 o1 o2 o3 o4 o5 (1:Int)=some (((1+1*List.length o1+wl aq o2+wl aM o3+wl bP o4+4*List.length o5:Nat):Int),afw,afx,afy,afz,afA,()):=Z1;have Z2:kF o0 afw afx afy afz afA (1:Int)=some (((1+1*List.length o1+wl aq o2+wl aM o3+wl bP o4+4*List.length o5:Nat):Int),()):=Z2;obtain ⟨aqQ,alI,alJ,alK⟩:=xV o6 (1+1*List.length o1+wl aq o2+wl aM o3+wl bP o4+4*List.length o5) (by omega) (by omega);simp only [Ui sm lA (Nat.le_trans ZX (by decide)),R1 fP (Nat.le_trans ZY (by decide)),ru,him,Um o0 o1 o2 o3 o4 o5 aly,DA o6 alz,H4 sm lA (Nat.le_trans ZX (by decide)),R4 fP (Nat.le_trans ZY (by decide)),ZZ,Z0,ai (show ¬((1+1*List.length lA:Nat):Int)<0 by omega),alB,ai (show ¬((1+1*List.length lA+5*List.length fP:Nat):Int)<0 by omega),Z1,Z2,ai (show ¬((1+1*List.length o1+wl aq o2+wl aM o3+wl bP o4+4*List.length o5:Nat):Int)<0 by omega),alI,alJ,ai (show ¬((1+1*List.length o1+wl aq o2+wl aM o3+wl bP o4+4*List.length o5+1*List.length o6:Nat):Int)<0 by omega),Option.bind_some,cond_false,cond_true,Bool.not_true,Bool.not_false,decide_true,beq_self_eq_true,bS]
end Go.TM
