/- Quiet, of the program and of the reference, of any work. -/
import Derived.Test.YtlgnmloddedbaaaGreatQPQuiL
set_option linter.unusedSimpArgs false
set_option linter.unusedVariables false
namespace Go.TM
open Go
theorem xR {X E:Type} {round:X→Option (Sum X E)} {s s':X} {x:E} (h:round s=some (.inl s')) (hx:aF round s'=some x):aF round s=some x:=by
 rw [iG,h];exact hx
theorem Co {X E:Type} {round:X→Option (Sum X E)} {s:X} {x:E} (h:round s=some (.inr x)):aF round s=some x:=by
 rw [iG,h]
theorem Ry {n:Nat} {u:bT} (hX:gr n u) {k:Nat} (hk:k<u.2.2.1.length):FW (tN u u.2.2.1[k]).2.2.2.1≤FW u.2.2.2.1+20000:=by
 have hm:=hX.sA _ (List.getElem_mem hk);have hi:=(cQ _ hm.items).1;have Fc:(E6 u.2.2.1[k]).length≤60:=Nat.le_trans (List.length_filter_le _ _) hi;have h1:=FW.tell hX.Df.2.1 (u.2.2.1[k]).1 (l:=E6 u.2.2.1[k]) (fun x hx=>(yr hm.items x (List.mem_filter.1 hx).1).2.2.2);have h2:=FW.tok (jL u.1 u.2.1 (u.2.2.1[k]).1) (t:=jX u.2.2.1[k]) (Jx hm);show FW (u.2.2.2.1++[iX (jL u.1 u.2.1 (u.2.2.1[k]).1) (jX u.2.2.1[k])]++dY u.2.2.1 (u.2.2.1[k]).1 (E6 u.2.2.1[k]))≤_;rw [FW.app,FW.app];omega
theorem OI {n:Nat} {v:bT} (hX:gr n v) (hn:n≤900000) (hf:v.2.2.2.1=[]):∀k,k≤v.2.2.1.length→∃u:bT,gr (n+k) u∧FW u.2.2.2.1≤20000*k∧u.2.2.1=v.2.2.1∧u.2.2.2.2=v.2.2.2.2∧
  (∀(s i:Int) x,aF ku (s,(0:Int),[],[],[],[],[],u.1,u.2.1,u.2.2.1,u.2.2.2.1,u.2.2.2.2.1,u.q.1,i,((k:Nat):Int),())=some x→aF ku (s,(0:Int),[],[],[],[],[],v.1,v.2.1,v.2.2.1,v.2.2.2.1,v.2.2.2.2.1,v.q.1,i,(0:Int),())=some x)∧
  (∀(p q:Int) x,aF kz ((0:Int),[],[],[],[],[],u.1,u.2.1,u.2.2.1,u.2.2.2.1,u.2.2.2.2.1,u.q.1,p,q,((v.2.2.1.length:Nat):Int),((k:Nat):Int),())=some x→aF kz ((0:Int),[],[],[],[],[],v.1,v.2.1,v.2.2.1,v.2.2.2.1,v.2.2.2.2.1,v.q.1,p,q,((v.2.2.1.length:Nat):Int),(0:Int),())=some x):=by
 intro k
 induction k with
 |zero=>exact fun _=>⟨v,hX,by rw [hf];exact Nat.le_refl _,rfl,rfl,fun _ _ _ h=>h,fun _ _ _ h=>h⟩
 |succ k ih=>
  intro hk;obtain ⟨u,h1,h2,h3,h4,g1,g2⟩:=ih (by omega);have uP:k<v.2.2.1.length:=hk;have ZB:k<u.2.2.1.length:=by rw [h3];exact uP
  have h5:=hX.Df;obtain ⟨a,u',e1,e2,F8,hu⟩:=Jz h1 (by omega) ZB;refine ⟨u',F8,?_,?_,?_,fun s i x hx=>g1 s i x ?_,fun p q x hx=>g2 p q x ?_⟩
  ·rcases hu with rfl | rfl
   ·omega
   ·have:=Ry h1 ZB;omega
  ·rcases hu with rfl | rfl<;>exact h3
  ·rcases hu with rfl | rfl<;>exact h4
  ·refine xR (s':=(s,(0:Int),[],[],[],[],[],u'.1,u'.2.1,u'.2.2.1,u'.2.2.2.1,u'.2.2.2.2.1,u'.q.1,i,((k+1:Nat):Int),())) ?_ hx;simp only [ku,tE,az ZB,cond_true,e1,Option.bind_some,aE (show k<4611686018427387904 by omega)]
  ·refine xR (s':=((0:Int),[],[],[],[],[],u'.1,u'.2.1,u'.2.2.1,u'.2.2.2.1,u'.2.2.2.2.1,u'.q.1,p,q,((v.2.2.1.length:Nat):Int),((k+1:Nat):Int),())) ?_ hx;simp only [kz,tL,az uP,cond_true,e2,Option.bind_some,aE (show k<4611686018427387904 by omega)]
theorem Rz {n a:Nat} {v:bT} (hX:gr n v) (hn:n≤900000) (hS:Rx a 0 v):∀k,k≤v.2.2.1.length→∃u:bT,gr (n+k) u∧Rx a k u∧u.2.2.1.length=v.2.2.1.length∧
  (∀x,aF kx ((0:Int),[],[],[],[],[],u.1,u.2.1,u.2.2.1,u.2.2.2.1,u.2.2.2.2.1,u.q.1,((k:Nat):Int),())=some x→aF kx ((0:Int),[],[],[],[],[],v.1,v.2.1,v.2.2.1,v.2.2.2.1,v.2.2.2.2.1,v.q.1,(0:Int),())=some x)∧
  (∀x,aF kC ((0:Int),[],[],[],[],[],u.1,u.2.1,u.2.2.1,u.2.2.2.1,u.2.2.2.2.1,u.q.1,((v.2.2.1.length:Nat):Int),((k:Nat):Int),())=some x→aF kC ((0:Int),[],[],[],[],[],v.1,v.2.1,v.2.2.1,v.2.2.2.1,v.2.2.2.2.1,v.q.1,((v.2.2.1.length:Nat):Int),(0:Int),())=some x):=by
 intro k
 induction k with
 |zero=>exact fun _=>⟨v,hX,hS,rfl,fun _ h=>h,fun _ h=>h⟩
 |succ k ih=>
  intro hk;obtain ⟨u,h1,h2,h3,g1,g2⟩:=ih (by omega);have uP:k<v.2.2.1.length:=hk;have ZB:k<u.2.2.1.length:=by rw [h3];exact uP
  have h5:=hX.Df;obtain ⟨u',e1,e2,F8,qw,j,m',hj,hu⟩:=Ls h1 (by omega) ZB;refine ⟨u',F8,?_,?_,fun x hx=>g1 x ?_,fun x hx=>g2 x ?_⟩
  ·subst hu;refine ⟨h2.JH,h2.said,?_⟩;have hm:=h1.sA _ (List.getElem_mem ZB);have q1:=HW.set qw ((u.2.2.2.2.1[k]).1++il (u.2.2.1[k]).2.2.2.1 (u.2.2.1[k]).q.2.2.2.2.1 j);have q2:=IW.short (l:=il (u.2.2.1[k]).2.2.2.1 (u.2.2.1[k]).q.2.2.2.2.1 j) (fun x hx=>by
    obtain ⟨i,_,rfl⟩:=List.mem_map.1 hx;exact FN hm.items _)
   rw [sy] at q2;rw [IW.app] at q1;have q3:=h2.heard;show HW (u.2.2.2.2.1.set k ((u.2.2.2.2.1[k]).1++il (u.2.2.1[k]).2.2.2.1 (u.2.2.1[k]).q.2.2.2.2.1 j,()))≤_;omega
  ·subst hu;show (u.2.2.1.set k m').length=_;rw [List.length_set];exact h3
  ·refine xR (s':=((0:Int),[],[],[],[],[],u'.1,u'.2.1,u'.2.2.1,u'.2.2.2.1,u'.2.2.2.2.1,u'.q.1,((k+1:Nat):Int),())) ?_ hx;simp only [kx,tJ,az ZB,cond_true,e1,Option.bind_some,aE (show k<4611686018427387904 by omega)]
  ·refine xR (s':=((0:Int),[],[],[],[],[],u'.1,u'.2.1,u'.2.2.1,u'.2.2.2.1,u'.2.2.2.2.1,u'.q.1,((v.2.2.1.length:Nat):Int),((k+1:Nat):Int),())) ?_ hx;simp only [kC,tM,az uP,cond_true,e2,Option.bind_some,aE (show k<4611686018427387904 by omega)]
def nq (s:Int):Nat:=min s.toNat 5000
theorem ae0 (s:Int):(if (if 5000<s then 5000 else s)>0 then (if 5000<s then 5000 else s) else 0)=((nq s:Nat):Int):=by
 unfold nq
 split<;>split<;>omega
theorem ZC {w:bT} (hX:gr 0 w) (hS:Rx 0 0 w) (s:Int):∀k,k≤nq s→∃v:bT,gr (5*k) v∧Rx k 0 v∧
  (∀x,aF gl (s,(0:Int),[],[],[],[],[],v.1,v.2.1,v.2.2.1,v.2.2.2.1,v.2.2.2.2.1,v.q.1,((k:Nat):Int),())=some x→aF gl (s,(0:Int),[],[],[],[],[],w.1,w.2.1,w.2.2.1,w.2.2.2.1,w.2.2.2.2.1,w.q.1,(0:Int),())=some x)∧
  (∀x,aF iU ((0:Int),[],[],[],[],[],v.1,v.2.1,v.2.2.1,v.2.2.2.1,v.2.2.2.2.1,v.q.1,((nq s:Nat):Int),((k:Nat):Int),())=some x→aF iU ((0:Int),[],[],[],[],[],w.1,w.2.1,w.2.2.1,w.2.2.2.1,w.2.2.2.2.1,w.q.1,((nq s:Nat):Int),(0:Int),())=some x):=by
 intro k
 induction k with
 |zero=>exact fun _=>⟨w,hX,hS,fun _ h=>h,fun _ h=>h⟩
 |succ k ih=>
  intro hk;obtain ⟨v,h1,h2,g1,g2⟩:=ih (by omega);have U2:k<nq s:=hk;have hk5:k<5000:=by unfold nq at U2;omega
  have hks:((k:Nat):Int)<s:=by unfold nq at U2;omega
  have ae1:((k:Nat):Int)<5000:=by omega
  have h5:=h1.Df
  by_cases hf:v.2.2.2.1=[]
  ·obtain ⟨u,u1,u2,u3,u4,g3,g4⟩:=OI h1 (by omega) hf v.2.2.1.length (Nat.le_refl _);have s1:=g3 s ((k:Nat):Int) (.inl (s,(0:Int),[],[],[],[],[],u.1,u.2.1,u.2.2.1,u.2.2.2.1,u.2.2.2.2.1,u.q.1,((k:Nat):Int),())) (Co (by simp only [ku,tE,u3,aD,cond_false]));have s2:=g4 ((nq s:Nat):Int) ((k:Nat):Int) (.inl ((0:Int),[],[],[],[],[],u.1,u.2.1,u.2.2.1,u.2.2.2.1,u.2.2.2.2.1,u.q.1,((nq s:Nat):Int),((k:Nat):Int),())) (Co (by simp only [kz,tL,aD,cond_false]));have z:¬(0:Int)<((v.2.2.2.1.length:Nat):Int):=by rw [hf];decide
   refine ⟨u,u1.up (by omega),⟨by omega,?_,?_⟩,fun x hx=>g1 x ?_,fun x hx=>g2 x ?_⟩
   ·rw [show u.q.1=v.q.1 from congrArg (fun z=>z.2.1) u4];have:=h2.said;omega
   ·rw [show u.2.2.2.2.1=v.2.2.2.2.1 from congrArg (fun z=>z.1) u4];exact h2.heard
   ·refine xR (s':=(s,(0:Int),[],[],[],[],[],u.1,u.2.1,u.2.2.1,u.2.2.2.1,u.2.2.2.2.1,u.q.1,((k+1:Nat):Int),())) ?_ hx;simp only [gl,mh,aj hks,aj ae1,cond_true,aq z,cond_false,s1,bN,Option.bind_some,aE (show k<4611686018427387904 by omega)]
   ·refine xR (s':=((0:Int),[],[],[],[],[],u.1,u.2.1,u.2.2.1,u.2.2.2.1,u.2.2.2.2.1,u.q.1,((nq s:Nat):Int),((k+1:Nat):Int),())) ?_ hx;simp only [iU,pe,az U2,cond_true,aq z,cond_false,s2,bN,Option.bind_some,aE (show k<4611686018427387904 by omega)]
  ·have hp:0<v.2.2.2.1.length:=List.length_pos_iff.2 hf;have F8:gr (5*k) (ln v (v.2.2.2.1.drop 1)):=h1.Rq (fun f OS=>h1.lR f (List.mem_of_mem_drop OS)) (by rw [List.length_drop];have:=h1.Cn;omega);obtain ⟨a,w',e1,e2,hX2,hc⟩:=OH F8 (by omega) v.2.2.2.1[0] (h1.lR _ (List.getElem_mem hp));have hS':Rx k 0 (ln v (v.2.2.2.1.drop 1)):=⟨Nat.le_trans (FW.drop _) h2.JH,h2.said,h2.heard⟩;have e1:nD v.1 v.2.1 v.2.2.1 (List.drop 1 v.2.2.2.1) v.2.2.2.2.1 v.q.1 (v.2.2.2.1[0]).1 (v.2.2.2.1[0]).2.1 (v.2.2.2.1[0]).2.2.1 (v.2.2.2.1[0]).2.2.2.1 (v.2.2.2.1[0]).2.2.2.2.1 (v.2.2.2.1[0]).q.1 (v.2.2.2.1[0]).q.2.1 (v.2.2.2.1[0]).q.2.2.1 (v.2.2.2.1[0]).q.2.2.2.1 (v.2.2.2.1[0]).q.2.2.2.2.1 (v.2.2.2.1[0]).q.q.1 (v.2.2.2.1[0]).q.q.2.1=some (a,w'.1,w'.2.1,w'.2.2.1,w'.2.2.2.1,w'.2.2.2.2.1,w'.q.1,()):=e1;have e2:lk v.1 v.2.1 v.2.2.1 (List.drop 1 v.2.2.2.1) v.2.2.2.2.1 v.q.1 (v.2.2.2.1[0]).1 (v.2.2.2.1[0]).2.1 (v.2.2.2.1[0]).2.2.1 (v.2.2.2.1[0]).2.2.2.1 (v.2.2.2.1[0]).2.2.2.2.1 (v.2.2.2.1[0]).q.1 (v.2.2.2.1[0]).q.2.1 (v.2.2.2.1[0]).q.2.2.1 (v.2.2.2.1[0]).q.2.2.2.1 (v.2.2.2.1[0]).q.2.2.2.2.1 (v.2.2.2.1[0]).q.q.1 (v.2.2.2.1[0]).q.q.2.1=some (a,w'.1,w'.2.1,w'.2.2.1,w'.2.2.2.1,w'.2.2.2.2.1,w'.q.1,()):=e2;refine ⟨w',hX2.up (by omega),TC F8 hS' hc,fun x hx=>g1 x ?_,fun x hx=>g2 x ?_⟩
   ·refine xR (s':=(s,(0:Int),[],[],[],[],[],w'.1,w'.2.1,w'.2.2.1,w'.2.2.2.1,w'.2.2.2.2.1,w'.q.1,((k+1:Nat):Int),())) ?_ hx;simp only [gl,mh,aj hks,aj ae1,cond_true,aj (show (0:Int)<((v.2.2.2.1.length:Nat):Int) by omega),List.getElem?_eq_getElem hp,Option.bind_some,aj (show (1:Int)≤((v.2.2.2.1.length:Nat):Int) by omega),e1,aE (show k<4611686018427387904 by omega)]
   ·refine xR (s':=((0:Int),[],[],[],[],[],w'.1,w'.2.1,w'.2.2.1,w'.2.2.2.1,w'.2.2.2.2.1,w'.q.1,((nq s:Nat):Int),((k+1:Nat):Int),())) ?_ hx;simp only [iU,pe,az U2,cond_true,aj (show (0:Int)<((v.2.2.2.1.length:Nat):Int) by omega),cX hp,List.getElem?_eq_getElem hp,Option.bind_some,aj (show (1:Int)≤((v.2.2.2.1.length:Nat):Int) by omega),e2,aE (show k<4611686018427387904 by omega)]
def Mt (w:bT):Nat:=(List.length w.2.1+wl jN w.2.1)+(List.length w.2.2.1+wl ak w.2.2.1)+(List.length w.2.2.2.1+wl aH w.2.2.2.1)+(List.length w.2.2.2.2.1+wl bD w.2.2.2.2.1)+(List.length w.q.1+wl bP w.q.1)
theorem Lt (w:bT) (s:Int) (hw:Mt w≤1048576):∃u:bT,sd w.1 w.2.1 w.2.2.1 w.2.2.2.1 w.2.2.2.2.1 w.q.1 s=some (u.1,u.2.1,u.2.2.1,u.2.2.2.1,u.2.2.2.2.1,u.q.1,())∧oH w.1 w.2.1 w.2.2.1 w.2.2.2.1 w.2.2.2.2.1 w.q.1 s=some (u.1,u.2.1,u.2.2.1,u.2.2.2.1,u.2.2.2.2.1,u.q.1,())∧Mt u≤268435456:=by
 have hw0:=hw;unfold Mt at hw;have hc:E8 w:=
  {
   mem:=by omega
   Rv:=by omega
   mat:=fun m hm=>by
    have h1:=mJ ak _ m hm;show ak m≤_;omega
   JH:=by omega
   lR:=fun f hf=>by
    have h1:=mJ aH _ f hf;have e:aH f=(f.q.2.2.1.length+wl jN f.q.2.2.1)+ByteArray.size f.q.q.2.1:=rfl;omega
   JD:=by omega
   list:=fun h hh=>by
    have h1:=mJ bD _ h hh;have e:bD h=h.1.length+wl bP h.1:=rfl;omega
   said:=by omega }
 obtain ⟨b,r1,r2,r3⟩:=Lr hc;have c1:=E9 hc;have c2:=Fa hc;unfold sd oH;simp only [c1,c2,r1,r2,Option.bind_some]
 cases b
 ·exact ⟨w,rfl,rfl,Nat.le_trans hw0 (by decide)⟩
 obtain ⟨hr,hl,hh,hg⟩:=r3 rfl;have hX:gr 0 w:=
  {
   ring:=hr
   len:=hl
   ids:=fun k hk hm=>(hg k hk hm).2
   sA:=fun m hm=>by
    obtain ⟨k,hk,rfl⟩:=List.mem_iff_getElem.1 hm;exact (hg k hk (by omega)).1
   Cn:=by omega
   lR:=hc.lR
   heard:=hh
   list:=fun h hh=>by
    have h1:=mJ bD _ h hh;have e:bD h=h.1.length+wl bP h.1:=rfl;omega
   said:=by omega }
 have hS:Rx 0 0 w:=⟨by unfold FW;omega,by unfold IW;omega,by unfold HW;omega⟩;obtain ⟨v,v1,v2,g1,g2⟩:=ZC hX hS s (nq s) (Nat.le_refl _);have hq:nq s≤5000:=Nat.min_le_right _ _;have l1:=g1 (.inl ((0:Int),[],[],[],[],[],v.1,v.2.1,v.2.2.1,v.2.2.2.1,v.2.2.2.2.1,v.q.1,())) (Co (by
  by_cases hs:((nq s:Nat):Int)<s
  ·simp only [gl,mh,aj hs,cond_true,aq (show ¬((nq s:Nat):Int)<5000 by unfold nq at hs ⊢;omega),cond_false]
  ·simp only [gl,mh,aq hs,cond_false]))
 have l2:=g2 (.inl ((0:Int),[],[],[],[],[],v.1,v.2.1,v.2.2.1,v.2.2.2.1,v.2.2.2.2.1,v.q.1,())) (Co (by simp only [iU,pe,aD,cond_false]));obtain ⟨u,u1,u2,u3,g3,g4⟩:=Rz v1 (by omega) v2 v.2.2.1.length (Nat.le_refl _);have l3:=g3 (.inl ((0:Int),[],[],[],[],[],u.1,u.2.1,u.2.2.1,u.2.2.2.1,u.2.2.2.2.1,u.q.1,())) (Co (by simp only [kx,tJ,u3,aD,cond_false]));have l4:=g4 (.inl ((0:Int),[],[],[],[],[],u.1,u.2.1,u.2.2.1,u.2.2.2.1,u.2.2.2.2.1,u.q.1,())) (Co (by simp only [kC,tM,aD,cond_false]));have h5:=u1.Df;have h6:=v1.Df;have s1:=u2.JH;have s2:=u2.said;have s3:=u2.heard;unfold FW at s1;unfold IW at s2;unfold HW at s3;have hcu:E8 u:=
  {
   mem:=by omega
   Rv:=by omega
   mat:=fun m hm=>Nat.le_trans (u1.sA m hm).small (by decide)
   JH:=by omega
   lR:=u1.lR
   JD:=by omega
   list:=fun h hh=>by have:=u1.list h hh;omega
   said:=by omega }
 have c3:=E9 hcu;have c4:=Fa hcu;simp only [Bool.not_true,cond_false,ae0,l1,l2,bN,Option.bind_some,l3,l4,c3,c4];refine ⟨u,rfl,rfl,?_⟩;have w0:=qG jN (fun _=>rfl) u.2.1;have w1:=GP ak 5000 u.2.2.1 (fun m hm=>(u1.sA m hm).small);unfold Mt;omega
end Go.TM
set_option linter.unusedSimpArgs false
set_option linter.unusedVariables false
namespace Go.TM
open Go
theorem Lu (bX:Int) (bE:aJ) (bL:aa) (bM:ae) (cn:ax) (bS:ah) (ld:Int) (h0:(List.length bE+wl jN bE)+(List.length bL+wl ak bL)+(List.length bM+wl aH bM)+(List.length cn+wl bD cn)+(List.length bS+wl bP bS)≤1048576):∃o0 o1 o2 o3 o4 o5,sd bX bE bL bM cn bS ld=some (o0,o1,o2,o3,o4,o5,())∧oH bX bE bL bM cn bS ld=some (o0,o1,o2,o3,o4,o5,())∧(List.length o1+wl jN o1)+(List.length o2+wl ak o2)+(List.length o3+wl aH o3)+(List.length o4+wl bD o4)+(List.length o5+wl bP o5)≤268435456:=by
 obtain ⟨u,k1,k2,k3⟩:=Lt (bX,bE,bL,bM,cn,bS,()) ld h0;exact ⟨_,_,_,_,_,_,k1,k2,k3⟩
end Go.TM
set_option linter.unusedSimpArgs false
set_option linter.unusedVariables false
namespace Go.TM
open Go
theorem OJ (su:Int) (mi:aJ) (mj:aa) (ml:ae) (mm:ax) (mn:ah) (yp:Int) (RE:ca (su,mi,mj,ml,mm,mn,())):nU su mi mj ml mm mn yp=some (true,()):=by
 unfold nU;obtain ⟨m0,e0,l0,w0⟩:=S9 su mi mj ml mm mn (left:=1048576) RE (by omega) (by omega);rw [e0];simp only [Option.bind_some]
 by_cases hm0:m0<0
 ·rw [aj hm0];rfl
 have w0:0≤m0→(((List.length mi+wl jN mi)+(List.length mj+wl ak mj)+(List.length ml+wl aH ml)+(List.length mm+wl bD mm)+(List.length mn+wl bP mn):Nat):Int)+m0≤1048576:=w0;have w0:=w0 (by omega);rw [aq hm0];simp only [cond_false];have ZD:(List.length mi+wl jN mi)+(List.length mj+wl ak mj)+(List.length ml+wl aH ml)+(List.length mm+wl bD mm)+(List.length mn+wl bP mn)≤1048576:=by omega
 obtain ⟨o0,o1,o2,o3,o4,o5,tO,him,alb⟩:=Lu su mi mj ml mm mn yp ZD;obtain ⟨ae2,ae3,ae4,ae5,ae6,ZE,ZF,alc,ald,ale,alf,alg⟩:=Ml su mi mj ml mm mn (1) (by omega) (by omega) (by omega) (by omega) (by omega) (by omega);have ZE:iV su mi mj ml mm mn (1:Int)=some (((1+1*List.length mi+wl ar mj+wl aM ml+wl bU mm+4*List.length mn:Nat):Int),ae2,ae3,ae4,ae5,ae6,()):=ZE;have ZF:iW su ae2 ae3 ae4 ae5 ae6 (1:Int)=some (((1+1*List.length mi+wl ar mj+wl aM ml+wl bU mm+4*List.length mn:Nat):Int),()):=ZF;obtain ⟨ae7,ae8,ae9,afa,afb,ZG,ZH,alh,ali,alj,alk,alm⟩:=Ml o0 o1 o2 o3 o4 o5 (1) (by omega) (by omega) (by omega) (by omega) (by omega) (by omega);have ZG:iV o0 o1 o2 o3 o4 o5 (1:Int)=some (((1+1*List.length o1+wl ar o2+wl aM o3+wl bU o4+4*List.length o5:Nat):Int),ae7,ae8,ae9,afa,afb,()):=ZG;have ZH:iW o0 ae7 ae8 ae9 afa afb (1:Int)=some (((1+1*List.length o1+wl ar o2+wl aM o3+wl bU o4+4*List.length o5:Nat):Int),()):=ZH;simp only [Tc su mi mj ml mm mn (Nat.le_trans ZD (by decide)),tO,him,Mk o0 o1 o2 o3 o4 o5 alb,Mk su mi mj ml mm mn (Nat.le_trans ZD (by decide)),ZE,ZF,aq (show ¬((1+1*List.length mi+wl ar mj+wl aM ml+wl bU mm+4*List.length mn:Nat):Int)<0 by omega),ZG,ZH,aq (show ¬((1+1*List.length o1+wl ar o2+wl aM o3+wl bU o4+4*List.length o5:Nat):Int)<0 by omega),Option.bind_some,cond_false,cond_true,Bool.not_true,Bool.not_false,decide_true,beq_self_eq_true,cG]
end Go.TM
