/- A machine over trees: an evaluator of the code, and that what it finds is so; part 4. -/
import Derived.Test.YtlgnmloddedbaaaGreatTm3
import Derived.Laws.Sem
import Derived.Deep.LoopGhost
import Derived.OrdersHeld
import Derived.KernelRfl
import Derived.Carry
import Derived.ChangeArms
import Derived.ChangeOld
import Derived.OpenShut
import Derived.Laws.StructEq
import Derived.ChangeKeysEq
namespace Go.TM
open Go Go.RowKit
def yU (T:kK) (tm:Array Value):List ResultVar→List RP→Prop
 | [],[]=>True
 |v::vs,r::rs=>Q1 T tm v r∧yU T tm vs rs
 |_,_=>False
theorem Gz {P:Program} {T:kK} (hT:fG P T) {w0:World} {mu:Mu} {c:Cz} {st:St} {a:Act} {w:World} (h:Rel w0 mu c st a w):(rvs:List ResultVar)→(rs:List RP)→yU T a.tmps rvs rs→(t:RT)→(y:aw t)→{x:aw (cN rs t)}→{u:List (Option Lb)}→{r:List (Nat×Nat)}→Ei st rs t y=some (x,u,r)→
  (fJ rs t x).2=y∧(fJ rs t x).1.length=rs.length∧(∀l∈bR u,l.real=true)∧∃vals:List Value,(rvs.mapM (Ej a.tmps)).run P w=.ok vals w∧vals.length=rvs.length∧
   ∀(ρ:Lb→Option Lb) (j:Nat),(∀k l,nth u k=some (some l)→ρ l=some (.eF (j+k)))→(∀p∈r,ρ (.sp p.1 p.2)=none)→ik (c.map ρ) w j (fJ rs t x).1 vals
 | [],[],_,t,y,x,u,r,he=>by
  injection he with he;injection he with e1 e2;injection e2 with e2 e3;subst e1 e2 e3;exact ⟨rfl,rfl,by simp [bR],[],rfl,rfl,fun _ _ _ _=>rfl⟩
 | [],_::_,hf,_,_,_,_,_,_=>hf.elim
 |_::_,[],hf,_,_,_,_,_,_=>hf.elim
 |rv::rvs,rr::rs,hf,t,y,x,u,r,he=>by
  unfold Ei at he;obtain ⟨cs,hc,he⟩:=Option.bind_eq_some_iff.1 he;obtain ⟨q,hq,he⟩:=Option.bind_eq_some_iff.1 he;obtain ⟨p,hp,he⟩:=Option.map_eq_some_iff.1 he;obtain ⟨x2,u2,r2⟩:=q;obtain ⟨x1,u1,r1⟩:=p;injection he with e1 e2;injection e2 with e2 e3;subst e1 e2 e3;obtain ⟨l1,l2,l3⟩:=Gy rr.ps _ cs _ hp;obtain ⟨vs,v,g1,g2,g3⟩:=RP.Q2 hT h hf.1 hc l2;obtain ⟨k1,k2,k3,vals,k4,k5,k6⟩:=Gz hT h rvs rs hf.2 t y hq;have h0:=fun (ρ:Lb→Option Lb) (j:Nat)=>wS h (ρ:=ρ) (f:=.eF) (fun _=>rfl) rr.ps (cN rs t) cs x2 vs j g1 hp
  have e0:=(h0 (fun _=>none) 0).1;refine ⟨?_,?_,fun l hl => ?_,v::vals,?_,by simp [k5],fun ρ j hu hr => ?_⟩
  ·show (fJ rs t (dU rr.ps (cN rs t) x1).2).2=y;rw [e0];exact k1
  ·show (fJ rs t (dU rr.ps (cN rs t) x1).2).1.length+1=_;rw [e0,k2];rfl
  ·rw [gL] at hl;rcases List.mem_append.1 hl with hl | hl
   ·unfold RP.lab at hl
    split at hl
    ·split at hl
     ·simp only [List.mem_singleton,Option.some.injEq] at hl;subst hl;rfl
     ·cases hl
    ·cases hl
   ·rcases List.mem_append.1 hl with hl | hl
    ·exact (h0 (fun _=>none) 0).2.1 l (gL.2 hl)
    ·exact k3 l (gL.2 hl)
  ·rw [List.mapM_cons];simp [Sem.run_bind,g2,k4]
  ·have e:(fJ (rr::rs) t x1).1=rr.rv (dU rr.ps (cN rs t) x1).1::(fJ rs t x2).1:=by
    show rr.rv (dU rr.ps (cN rs t) x1).1::(fJ rs t (dU rr.ps (cN rs t) x1).2).1=_;rw [e0]
   show ik (c.map ρ) w j (fJ (rr::rs) t x1).1 (v::vals);rw [e];rcases g3 with ⟨hnp,g3⟩ | ⟨tt,b,ty,us,Q3,Wp,hv,ec,QC,wF⟩
   ·have Wp:rr.lab st=[]:=by
     unfold RP.lab
     split
     ·rename_i t' e';exact absurd e' (hnp t')
     ·rfl
    rw [Wp,List.nil_append] at hu;have hL:=(h0 ρ j).2.2 (fun k l hk=>hu k l (by
     rw [mB,if_pos (Hn hk)];exact hk)) (fun p hp=>hr p (List.mem_append_left _ hp))
    have fC:=k6 ρ (j+rr.ps.length) (fun k l hk=>by
     have:=hu (rr.ps.length+k) l (by rw [mB,l1,if_neg (by omega),Nat.add_sub_cancel_left];exact hk);rw [Nat.add_assoc];exact this) (fun p hp=>hr p (List.mem_append_right _ hp))
    have hrv:∀os,rr.rv os=(match rr.agg,os with | false,[o]=>RV.one o | _,os=>RV.agg os):=by
     intro os;unfold RP.rv
     split
     ·rename_i t' e';exact absurd e' (hnp t')
     ·rfl
    rcases g3 with ⟨ha,rfl⟩ | ⟨ha,rfl⟩
    ·have er:rr.rv (dU rr.ps (cN rs t) x1).1=.agg (dU rr.ps (cN rs t) x1).1:=by rw [hrv,ha]
     rw [er];exact ⟨vs.toArray,vals,rfl,by simpa using hL,by rw [l3];exact fC⟩
    ·have hlen:cs.length=1:=g1.1;have:(dU rr.ps (cN rs t) x1).1.length=1:=by rw [l3,←l2,hlen]
     cases ho:(dU rr.ps (cN rs t) x1).1 with
     |nil=>rw [ho] at this;cases this
     |cons o l=>cases l with
      |cons _ _=>rw [ho] at this;simp at this
      |nil=>
       have er:rr.rv [o]=.one o:=by rw [hrv,ha]
       rw [er];rw [ho] at hL;refine ⟨v,vals,rfl,hL,?_⟩;rw [←l2,hlen] at fC;exact fC
   ·rw [Wp] at hu;have hb:=hu 0 (.box b) rfl;have hL:=(h0 ρ (j+1)).2.2 (fun k l hk=>by
     have:=hu (k+1) l (by
      show nth (u1++u2) k=_;rw [mB,if_pos (Hn hk)];exact hk)
     rwa [show j+(k+1)=j+1+k by omega] at this) (fun p hp=>hr p (List.mem_append_left _ hp))
    have fC:=k6 ρ (j+(rr.ps.length+1)) (fun k l hk=>by
     have:=hu (rr.ps.length+k+1) l (by
      show nth (u1++u2) (rr.ps.length+k)=_;rw [mB,l1,if_neg (by omega),Nat.add_sub_cancel_left];exact hk)
     rwa [show j+(rr.ps.length+k+1)=j+(rr.ps.length+1)+k by omega] at this) (fun p hp=>hr p (List.mem_append_right _ hp))
    have er:rr.rv (dU rr.ps (cN rs t) x1).1=.ptr (dU rr.ps (cN rs t) x1).1:=by unfold RP.rv;rw [Q3]
    rw [er];subst wF;refine ⟨v,vals,rfl,⟨c.bx b,us,ty,hv,?_,QC,hL⟩,by rw [l3];exact fC⟩;rw [Nat.add_zero] at hb;exact (Cz.kN ec).trans hb
def HF (mu:Mu) (lc:Nat→Nat→Loc) (i:Nat) (ps:List AP) (da:List AV) (vs:List Value):Prop:=
 ∀(k:Nat) (p:AP) (av:AV) (v:Value),ps[k]?=some p→da[k]?=some av→vs[k]?=some v→match p,av with
  |.io _ _,.io A=>v.oneCell'=true∧fm (lc (i+k) 0) A.r.width 0 A.xs.length v∧Nz.arr (i+k) 0 1 A.r.width A.xs.length (lc (i+k) 0)∈mu.an
  |.box _ _,.box _=>∃mK,v=.pointer (some ⟨mK,0,none⟩)∧Nz.box (i+k) 1 mK∈mu.an
  |.val _ _,.val _ _=>True
  |.bL qs,.bL os=>∃us,v=.agg us∧∀j A,os[j]?=some (.own A)→(∃r d,qs[j]?=some (.own r d))∧∃u,us.toList[j]?=some u∧u.oneCell'=true∧fm (lc (i+k) j) A.r.width 0 A.xs.length u∧Nz.arr (i+k) j 1 A.r.width A.xs.length (lc (i+k) j)∈mu.an
  |_,_=>False
theorem tN {w0:World} {mu:Mu} {c:Cz} {st:St} {a:Act} {w:World} (h:Rel w0 mu c st a w) {lc:Nat→Nat→Loc}:(ps:List AP)→(i:Nat)→(da:List AV)→(vs:List Value)→ps.length=da.length→ps.length=vs.length→HF mu lc i ps da vs→{x:aw (bC ps)}→{u:List Lb}→{r:List (Nat×Nat)}→td st i ps=some (x,u,r)→
  (∀l∈u,l.real=true)∧∃tb:List (Lb×Lb),tb.map (·.1)=u∧(∀p∈tb,p.2.kI=true)∧∀ρ:Lb→Option Lb,(∀p∈tb,ρ p.1=some p.2)→(∀p∈r,ρ (.sp p.1 p.2)=none)→gI (c.map ρ) w lc i da vs (mE ps x)
 | [],i,da,vs,h1,h2,_,x,u,r,he=>by
  injection he with he;injection he with e1 e2;injection e2 with e2 e3;subst e2 e3;have:da=[]:=by simpa using h1.symm
  subst this;exact ⟨by simp,[],rfl,by simp,fun _ _ _=>rfl⟩
 |p::ps,i,[],vs,h1,_,_,_,_,_,_=>by simp at h1
 |p::ps,i,_::_,[],_,h2,_,_,_,_,_=>by simp at h2
 |p::ps,i,av::da,v::vs,h1,h2,hl,x,u,r,he=>by
  have uB:HF mu lc (i+1) ps da vs:=fun k p' MO v' e1 e2 e3=>by
   have:=hl (k+1) p' MO v' (by simpa using e1) (by simpa using e2) (by simpa using e3)
   rwa [show i+(k+1)=i+1+k by omega] at this
  have V5:ps.length=da.length:=by simpa using h1
  have h2':ps.length=vs.length:=by simpa using h2
  have h0:=hl 0 p av v rfl rfl rfl
  cases p with
  |val agg qs=>
   cases av with
   |val Tj os=>
    obtain ⟨g1,tb,g2,g3,g4⟩:=tN h ps (i+1) da vs V5 h2' uB he;exact ⟨g1,tb,g2,g3,fun ρ hp hr=>g4 ρ hp hr⟩
   |io _=>exact h0.elim
   |box _=>exact h0.elim
   |bL _=>exact h0.elim
  |io rr dd=>
   cases av with
   |val _ _=>exact h0.elim
   |box _=>exact h0.elim
   |bL _=>exact h0.elim
   |io A=>
    obtain ⟨q1,q2,q3⟩:=h0;simp only [Nat.add_zero] at q2 q3;unfold td at he;obtain ⟨q,hq,he⟩:=Option.bind_eq_some_iff.1 he;obtain ⟨p,hp,he⟩:=Option.map_eq_some_iff.1 he;obtain ⟨x2,u2,r2⟩:=q;obtain ⟨x1,u1,r1⟩:=p;injection he with e1 e2;injection e2 with e2 e3;subst e1 e2 e3;obtain ⟨g1,tb,g2,g3,g4⟩:=tN h ps (i+1) da vs V5 h2' uB hq;have Tl:=h.cR _ q3;have hV:eD c st w (.one (.ref i 0 1 .full)) v:=⟨q1,Tl.1,fun A' ek=>by
     obtain ⟨e1,e2,e3⟩:=Tl.2 A' ek;rw [e1,e3];show fm (lc i 0) A.r.width 0 A'.xs.length v;rw [e2];exact q2⟩
    obtain ⟨a1,a2,ta,a3,a4,a5⟩:=AG h i hV hp;obtain ⟨A',ek,abU⟩:∃A',aT st i 0 1=some A'∧∃xs,bw rr A'.xs=some xs∧x1.1=xs:=by
     have hp:(bif Nat.beq i i&&(Nat.beq 0 0&&Nat.beq 1 1) then ((aT st i 0 1).bind fun A=>bif A.own&&A.md.is dd then (bw rr A.xs).map fun xs=>((xs,x2),[Lb.sp i 0],([]:List (Nat×Nat))) else none) else none)=some (x1,u1,r1):=hp;obtain ⟨_,hp1⟩:=aI hp;obtain ⟨A',ek,hp2⟩:=Option.bind_eq_some_iff.1 hp1;obtain ⟨_,hp3⟩:=aI hp2;obtain ⟨xs,UZ,e⟩:=Option.map_eq_some_iff.1 hp3;injection e with e _;exact ⟨A',ek,xs,UZ,by rw [←e]⟩
    obtain ⟨xs,UZ,ex⟩:=abU;obtain ⟨e1,e2,e3⟩:=Tl.2 A' ek;refine ⟨fun l hl => ?_,ta++tb,by simp [a3,g2],fun p hp => ?_,fun ρ hp hr => ?_⟩
    ·rcases List.mem_append.1 hl with hl | hl
     ·exact a2 l hl
     ·exact g1 l hl
    ·rcases List.mem_append.1 hp with hp | hp
     ·exact a4 p hp
     ·exact g3 p hp
    ·have hA5:=a5 ρ (fun p mA=>hp p (List.mem_append_left _ mA)) (fun p mA=>hr p (List.mem_append_left _ mA));have fC:=g4 ρ (fun p mA=>hp p (List.mem_append_right _ mA)) (fun p mA=>hr p (List.mem_append_right _ mA));have hA5:OwnAt (c.map ρ) w (.bK i 0) (c.lc i 0) { r:=rr,own:=true,xs:=x1.1,md:=dd } v:=hA5;rw [e3] at hA5;obtain ⟨er,PN⟩:=bd UZ;refine ⟨{ r:=rr,own:=true,xs:=x1.1,md:=dd },mE ps x1.2,rfl,?_,?_,hA5,?_⟩
     ·show rr.width=A.r.width;rw [←er];exact e1
     ·show List.length (x1.1:List (aw rr))=A.xs.length;rw [ex,PN,←e2]
      cases er
      rfl
     ·have:x1.2=x2:=a1;rw [this];exact fC
  |bL qs=>
   cases av with
   |val _ _=>exact h0.elim
   |io _=>exact h0.elim
   |box _=>exact h0.elim
   |bL os=>
    obtain ⟨us,rfl,q1⟩:=h0;simp only [Nat.add_zero] at q1;unfold td at he;obtain ⟨q,hq,he⟩:=Option.bind_eq_some_iff.1 he;obtain ⟨p,hp,he⟩:=Option.map_eq_some_iff.1 he;obtain ⟨x2,u2,r2⟩:=q;obtain ⟨x1,u1⟩:=p;injection he with e1 e2;injection e2 with e2 e3;subst e1 e2 e3;obtain ⟨g1,tb,g2,g3,g4⟩:=tN h ps (i+1) da vs V5 h2' uB hq;obtain ⟨a1,a2,a3⟩:=jN qs 0 (bC ps) x2 hp
    let f:Lb→Lb×Lb:=fun l=>(l,match l with | .sp x y=>.bK x y | l=>l)
    refine ⟨fun l hl => ?_,u1.map f++tb,?_,fun p hp => ?_,fun ρ hp hr => ?_⟩
    ·rcases List.mem_append.1 hl with hl | hl
     ·obtain ⟨k,rfl⟩:=a2 l hl;rfl
     ·exact g1 l hl
    ·rw [List.map_append,List.map_map,g2]
     congr 1
     exact List.map_id u1
    ·rcases List.mem_append.1 hp with hp | hp
     ·obtain ⟨l,hl,rfl⟩:=List.mem_map.1 hp;obtain ⟨k,rfl⟩:=a2 l hl;rfl
     ·exact g3 p hp
    ·have fC:=g4 ρ (fun p mA=>hp p (List.mem_append_right _ mA)) hr;refine ⟨(mP qs (bC ps) x1).1,mE ps (mP qs (bC ps) x1).2,rfl,⟨us,rfl,fun j A hj => ?_⟩,by rw [a1];exact fC⟩;obtain ⟨⟨r,dd,hqr⟩,u,b1,b2,b3,b4⟩:=q1 j A hj;obtain ⟨A',xs,c1,c2,cd,c3,c4,c5⟩:=a3 j r dd hqr;rw [Nat.zero_add] at c1 c5;obtain ⟨e1,e2,e3⟩:=(h.cR _ b4).2 A' c1;obtain ⟨er,PN⟩:=bd c3;have ha:=uF h c1;have hρ:ρ (.sp i j)=some (.bK i j):=hp (.sp i j,.bK i j) (List.mem_append_left _ (List.mem_map.2 ⟨_,c5,rfl⟩));have hw:r.width=A.r.width:=by rw [←er];exact e1
     have hn:xs.length=A.xs.length:=by
      rw [←e2,PN]
      cases er
      rfl
     refine ⟨_,u,c4,b1,hw,hn,b2,?_,rfl,?_⟩
     ·show fm (lc i j) r.width 0 xs.length u;rw [hw,hn];exact b3
     ·show match lc i j with
       |.nil=>xs=[]
       |.at b off cap=>_
      obtain ⟨rA,aoh,xsA,mdA⟩:=A';simp only at er c2 cd;subst er c2 cd;have PN:xs=xsA:=PN;subst PN;unfold bF at ha;have e3:c.lc i j=lc i j:=e3;rw [e3] at ha
      cases gH:lc i j with
      |nil=>rw [gH] at ha;exact ha
      |«at» b off cap=>
       rw [gH] at ha;obtain ⟨k0,k2,k3,k4⟩:=ha;exact ⟨(Cz.kN k0).trans hρ,k2,k3,k4.map hρ⟩
  |box Fu qs=>
   cases av with
   |val _ _=>exact h0.elim
   |io _=>exact h0.elim
   |bL _=>exact h0.elim
   |box os=>
    obtain ⟨mK,q1,q2⟩:=h0;simp only [Nat.add_zero] at q2;unfold td at he;obtain ⟨q,hq,he⟩:=Option.bind_eq_some_iff.1 he;obtain ⟨p,hp,he⟩:=Option.map_eq_some_iff.1 he;obtain ⟨x2,u2,r2⟩:=q;obtain ⟨x1,u1,r1⟩:=p;injection he with e1 e2;injection e2 with e2 e3;subst e1 e2 e3;obtain ⟨g1,tb,g2,g3,g4⟩:=tN h ps (i+1) da vs V5 h2' uB hq;have Tl:=h.cR _ q2;have hV:eD c st w (.one (.ptr i 1 0)) v:=⟨by rw [q1];rfl,Tl.1,fun cs ud=>by rw [Tl.2 cs ud,q1]⟩;obtain ⟨a1,a2,ta,a3,a4,a5⟩:=AG h i hV hp;refine ⟨fun l hl => ?_,ta++tb,by simp [a3,g2],fun p hp => ?_,fun ρ hp hr => ?_⟩
    ·rcases List.mem_append.1 hl with hl | hl
     ·exact a2 l hl
     ·exact g1 l hl
    ·rcases List.mem_append.1 hp with hp | hp
     ·exact a4 p hp
     ·exact g3 p hp
    ·have hA5:=a5 ρ (fun p mA=>hp p (List.mem_append_left _ mA)) (fun p mA=>hr p (List.mem_append_left _ mA));have fC:=g4 ρ (fun p mA=>hp p (List.mem_append_right _ mA)) (fun p mA=>hr p (List.mem_append_right _ mA));refine ⟨(dU qs (bC ps) x1).1,mE ps (dU qs (bC ps) x1).2,rfl,hA5,?_⟩;have:(dU qs (bC ps) x1).2=x2:=a1;rw [this];exact fC
end Go.TM
namespace Go.TM
open Go Go.RowKit
def start (n:Nat) (ps:List AP) (x:aw (aK (ps.map some))):St:=nZ 0 (ck (ps.map some) x++List.replicate (n+1-ps.length) none)
theorem qA:(l:List (Option AP))→(x:aw (aK l))→(ck l x).length=l.length
 | [],_=>rfl
 |none::l,x=>by
  show (ck l x).length+1=l.length+1;rw [qA l x]
 |some p::l,x=>by
  show (ck l (p.av (aK l) x).2).length+1=l.length+1;rw [qA l _]
theorem BN {c:Cz} {w:World} {lc:Nat→Nat→Loc}:(ps:List AP)→(i:Nat)→(da:List AV)→(vs:List Value)→{x:aw (aK (ps.map some))}→dY ps da=some x→ob c w lc i da vs→
  ps.length=da.length∧ps.length=vs.length∧∀k av,(ck (ps.map some) x)[k]?=some (some av)→∃v,vs[k]?=some v∧sJ c w (i+k) (lc (i+k)) av v
 | [],i,[],vs,x,hx,h=>by
  have:vs=[]:=h;subst this;exact ⟨rfl,rfl,fun k av hk=>by
   have hk:([]:List (Option AV))[k]?=some (some av):=hk;simp at hk⟩
 | [],_,_::_,_,_,hx,_=>by simp [dY] at hx
 |_::_,_,[],_,_,hx,_=>by simp [dY] at hx
 |p::ps,i,av::da,vs,x,hx,h=>by
  obtain ⟨v,l,rfl,h1,h2⟩:=h;unfold dY at hx
  cases hy:dY ps da with
  |none=>simp [hy] at hx
  |some y=>
   simp only [hy] at hx;obtain ⟨g1,g2,g3⟩:=BN ps (i+1) da l hy h2;obtain ⟨q1,q2⟩:=Ju (c:=c) (w:=w) (i:=i) (lc:=lc i) hx;refine ⟨by simp [g1],by simp [g2],fun k MO hk => ?_⟩
   cases k with
   |zero=>
    have hk:some (some (p.av (aK (ps.map some)) x).1)=some (some MO):=hk;simp only [Option.some.injEq] at hk;subst hk;exact ⟨v,rfl,q2 v h1⟩
   |succ k=>
    have hk:(ck (ps.map some) (p.av (aK (ps.map some)) x).2)[k]?=some (some MO):=hk;rw [q1] at hk;obtain ⟨v',h3,h4⟩:=g3 k MO hk;exact ⟨v',by simpa using h3,by rw [show i+(k+1)=i+1+k by omega];exact h4⟩
def jt (lc:Nat→Loc) (i:Nat):(j:Nat)→List OV→List Nz
 |_,[]=>[]
 |j,.own A::os=>.arr i j 1 A.r.width A.xs.length (lc j)::jt lc i (j+1) os
 |j,.int _ _::os=>jt lc i (j+1) os
 |j,.bool _::os=>jt lc i (j+1) os
 |j,.str _::os=>jt lc i (j+1) os
 |j,.shr _ _::os=>jt lc i (j+1) os
 |j,.lC _ _::os=>jt lc i (j+1) os
 |j,.fn _ _ _::os=>jt lc i (j+1) os
 |j,.dN::os=>jt lc i (j+1) os
theorem AI {lc:Nat→Loc} {i:Nat}:(os:List OV)→(j:Nat)→∀p∈jt lc i j os,∃k A,os[k]?=some (.own A)∧p=.arr i (j+k) 1 A.r.width A.xs.length (lc (j+k))
 | [],j,p,h=>by simp [jt] at h
 |o::os,j,p,h=>by
  have rest:p∈jt lc i (j+1) os→∃k A,(o::os)[k]?=some (.own A)∧p=.arr i (j+k) 1 A.r.width A.xs.length (lc (j+k)):=by
   intro h;obtain ⟨k,A,h1,h2⟩:=AI os (j+1) p h;refine ⟨k+1,A,by simpa using h1,?_⟩;rw [h2,show j+1+k=j+(k+1) by omega]
  cases o with
  |own A=>
   rcases List.mem_cons.1 h with h | h
   ·exact ⟨0,A,rfl,h⟩
   ·exact rest h
  |_=>exact rest h
theorem CO {lc:Nat→Loc} {i:Nat}:(os:List OV)→(j:Nat)→∀(k:Nat) (A:fT),os[k]?=some (.own A)→Nz.arr i (j+k) 1 A.r.width A.xs.length (lc (j+k))∈jt lc i j os
 | [],j,k,A,h=>by simp at h
 |o::os,j,0,A,h=>by
  simp only [List.getElem?_cons_zero,Option.some.injEq] at h;subst h;exact List.mem_cons_self
 |o::os,j,k+1,A,h=>by
  have:=CO (lc:=lc) (i:=i) os (j+1) k A (by simpa using h);rw [show j+1+k=j+(k+1) by omega] at this
  cases o with
  |own A=>exact List.mem_cons_of_mem _ this
  |_=>exact this
def Ek (lc:Nat→Nat→Loc):(i:Nat)→List AV→List Value→List Nz
 |_,[],_=>[]
 |_,_::_,[]=>[]
 |i,.val _ _::as,_::vs=>Ek lc (i+1) as vs
 |i,.io A::as,_::vs=>.arr i 0 1 A.r.width A.xs.length (lc i 0)::Ek lc (i+1) as vs
 |i,.bL os::as,_::vs=>jt (lc i) i 0 os++Ek lc (i+1) as vs
 |i,.box _::as,v::vs=>.box i 1 (match v with | .pointer (some ad)=>ad.block | _=>0)::Ek lc (i+1) as vs
theorem tO {lc:Nat→Nat→Loc}:(i:Nat)→(as:List AV)→(vs:List Value)→∀p∈Ek lc i as vs,∃k av v,as[k]?=some av∧vs[k]?=some v∧((∃A,av=.io A∧p=.arr (i+k) 0 1 A.r.width A.xs.length (lc (i+k) 0))∨(∃os,av=.box os∧p=.box (i+k) 1 (match v with | .pointer (some ad)=>ad.block | _=>0))∨∃os j A,av=.bL os∧os[j]?=some (.own A)∧p=.arr (i+k) j 1 A.r.width A.xs.length (lc (i+k) j))
 |_,[],_,p,h=>by simp [Ek] at h
 |_,_::_,[],p,h=>by simp [Ek] at h
 |i,.val _ _::as,_::vs,p,h=>by
  obtain ⟨k,av,v,h1,h2,h3⟩:=tO (i+1) as vs p h;exact ⟨k+1,av,v,by simpa using h1,by simpa using h2,by rw [show i+(k+1)=i+1+k by omega];exact h3⟩
 |i,.io A::as,v0::vs,p,h=>by
  rcases List.mem_cons.1 h with h | h
  ·exact ⟨0,.io A,v0,rfl,rfl,.inl ⟨A,rfl,h⟩⟩
  ·obtain ⟨k,av,v,h1,h2,h3⟩:=tO (i+1) as vs p h;exact ⟨k+1,av,v,by simpa using h1,by simpa using h2,by rw [show i+(k+1)=i+1+k by omega];exact h3⟩
 |i,.box os::as,v0::vs,p,h=>by
  rcases List.mem_cons.1 h with h | h
  ·exact ⟨0,.box os,v0,rfl,rfl,.inr (.inl ⟨os,rfl,h⟩)⟩
  ·obtain ⟨k,av,v,h1,h2,h3⟩:=tO (i+1) as vs p h;exact ⟨k+1,av,v,by simpa using h1,by simpa using h2,by rw [show i+(k+1)=i+1+k by omega];exact h3⟩
 |i,.bL os::as,v0::vs,p,h=>by
  rcases List.mem_append.1 h with h | h
  ·obtain ⟨j,A,h1,h2⟩:=AI os 0 p h;rw [Nat.zero_add] at h2;exact ⟨0,.bL os,v0,rfl,rfl,.inr (.inr ⟨os,j,A,rfl,h1,h2⟩)⟩
  ·obtain ⟨k,av,v,h1,h2,h3⟩:=tO (i+1) as vs p h;exact ⟨k+1,av,v,by simpa using h1,by simpa using h2,by rw [show i+(k+1)=i+1+k by omega];exact h3⟩
theorem MS {lc:Nat→Nat→Loc}:(i:Nat)→(as:List AV)→(vs:List Value)→as.length=vs.length→∀k av v,as[k]?=some av→vs[k]?=some v→(∀A,av=.io A→Nz.arr (i+k) 0 1 A.r.width A.xs.length (lc (i+k) 0)∈Ek lc i as vs)∧(∀os,av=.box os→Nz.box (i+k) 1 (match v with | .pointer (some ad)=>ad.block | _=>0)∈Ek lc i as vs)∧(∀os,av=.bL os→∀j A,os[j]?=some (.own A)→Nz.arr (i+k) j 1 A.r.width A.xs.length (lc (i+k) j)∈Ek lc i as vs)
 |_,[],_,_,k,av,v,h,_=>by simp at h
 |_,_::_,[],hn,_,_,_,_,_=>by simp at hn
 |i,a0::as,v0::vs,hn,0,av,v,h1,h2=>by
  simp only [List.getElem?_cons_zero,Option.some.injEq] at h1 h2;subst h1 h2;refine ⟨fun A e => ?_,fun os e => ?_,fun os e j A hj => ?_⟩
  ·subst e;exact List.mem_cons_self
  ·subst e;exact List.mem_cons_self
  ·subst e;have:=CO (lc:=lc i) (i:=i) os 0 j A hj;rw [Nat.zero_add] at this;exact List.mem_append_left _ this
 |i,a0::as,v0::vs,hn,k+1,av,v,h1,h2=>by
  obtain ⟨g1,g2,g3⟩:=MS (i+1) as vs (by simpa using hn) k av v (by simpa using h1) (by simpa using h2);have e:i+(k+1)=i+1+k:=by omega
  rw [e]
  cases a0 with
  |val _ _=>exact ⟨g1,g2,g3⟩
  |io _=>exact ⟨fun A h=>List.mem_cons_of_mem _ (g1 A h),fun os h=>List.mem_cons_of_mem _ (g2 os h),fun os h j A hj=>List.mem_cons_of_mem _ (g3 os h j A hj)⟩
  |box _=>exact ⟨fun A h=>List.mem_cons_of_mem _ (g1 A h),fun os h=>List.mem_cons_of_mem _ (g2 os h),fun os h j A hj=>List.mem_cons_of_mem _ (g3 os h j A hj)⟩
  |bL _=>exact ⟨fun A h=>List.mem_append_right _ (g1 A h),fun os h=>List.mem_append_right _ (g2 os h),fun os h j A hj=>List.mem_append_right _ (g3 os h j A hj)⟩
def lF (ps:List AP) (mu:Mu):Prop:=
 ∀p∈mu.an,(∃i r W n l,p=.arr i 0 1 W n l∧∃d,ps[i]?=some (.io r d))∨(∃i mK b qs,p=.box i 1 mK∧ps[i]?=some (.box b qs))∨∃i j W n l qs,p=.arr i j 1 W n l∧ps[i]?=some (.bL qs)
theorem El:(ps:List OP)→(t:RT)→(os:List OV)→(y:aw t)→{x:aw (lR ps t)}→cL ps t os y=some x→∀(j:Nat) (A:fT),os[j]?=some (.own A)→(∃r d,ps[j]?=some (.own r d))∧∃B:fT,(dU ps t x).1[j]?=some (.own B)∧B.r.width=A.r.width∧B.xs.length=A.xs.length
 | [],t,[],y,x,h=>by intro k A hk;simp at hk
 | [],_,_::_,_,_,h=>by simp [cL] at h
 |_::_,_,[],_,_,h=>by simp [cL] at h
 |p::ps,t,o::os,y,x,h=>by
  unfold cL at h
  cases h1:qo p o with
  |none=>simp [h1] at h
  |some a=>
   cases h2:cL ps t os y with
   |none=>simp [h1,h2] at h
   |some z=>
    simp only [h1,h2] at h;have h:(a,z)=x:=Option.some.inj h;subst h;intro j A hj
    cases j with
    |succ j=>
     obtain ⟨⟨r,d,q1⟩,B,q2,q3⟩:=El ps t os y h2 j A (by simpa using hj);exact ⟨⟨r,d,by simpa using q1⟩,B,(by show (dU ps t z).1[j]?=_;exact q2),q3⟩
    |zero=>
     simp only [List.getElem?_cons_zero,Option.some.injEq] at hj;subst hj
     cases p with
     |own r d=>
      have h1:(bif A.md.is d then bw r A.xs else none)=some a:=h1;obtain ⟨_,h1⟩:=aI h1;obtain ⟨er,PN⟩:=bd h1;refine ⟨⟨r,d,rfl⟩,{ r:=r,own:=true,xs:=a,md:=d },rfl,by show r.width=_;rw [←er],?_⟩;show List.length (a:List (aw r))=_;rw [PN]
      cases er
      rfl
     |_=>cases h1
theorem CP:(ps:List AP)→(da:List AV)→{x:aw (aK (ps.map some))}→dY ps da=some x→∀(k:Nat) (av:AV),da[k]?=some av→∃p:AP,ps[k]?=some p∧match p,av with
  |.io _ _,.io A=>∃B:fT,(ck (ps.map some) x)[k]?=some (some (.io B))∧B.r.width=A.r.width∧B.xs.length=A.xs.length
  |.box _ _,.box _=>True
  |.val _ _,.val _ _=>True
  |.bL qs,.bL os=>∃An:List OV,(ck (ps.map some) x)[k]?=some (some (AV.bL An))∧∀(j:Nat) (A:fT),os[j]?=some (OV.own A)→(∃r d,qs[j]?=some (OP.own r d))∧∃B:fT,An[j]?=some (OV.own B)∧B.r.width=A.r.width∧B.xs.length=A.xs.length
  |_,_=>False
 | [],[],_,_=>by intro k av h;simp at h
 | [],_::_,_,hx=>by simp [dY] at hx
 |_::_,[],_,hx=>by simp [dY] at hx
 |p::ps,av::da,x,hx=>by
  unfold dY at hx
  cases hy:dY ps da with
  |none=>simp [hy] at hx
  |some y=>
   simp only [hy] at hx;have e2:(p.av (aK (ps.map some)) x).2=y:=(Ju (c:=⟨fun _=>0,fun _ _=>.nil,fun _=>none,fun _=>none⟩) (w:=default) (i:=0) (lc:=fun _=>.nil) hx).1;intro k MO hk
   cases k with
   |zero=>
    simp only [List.getElem?_cons_zero,Option.some.injEq] at hk;subst hk;refine ⟨p,rfl,?_⟩
    cases p with
    |val agg qs=>cases av with
     |val _ _=>trivial
     |io _=>cases agg<;>cases hx
     |box _=>cases agg<;>cases hx
     |bL _=>cases agg<;>cases hx
    |io r d=>cases av with
     |val _ _=>cases hx
     |box _=>cases hx
     |bL _=>cases hx
     |io A=>
      have hx:(bif A.md.is d then (match bw r A.xs with | some xs=>some ((xs,y):aw (.cons (.sl r) (aK (ps.map some)))) | none=>none) else none)=some x:=hx;obtain ⟨_,hx⟩:=aI hx
      cases hc:bw r A.xs with
      |none=>rw [hc] at hx;cases hx
      |some xs=>
       rw [hc] at hx;injection hx with hx;obtain ⟨er,PN⟩:=bd hc;refine ⟨{ r:=r,own:=true,xs:=x.1,md:=d },rfl,by show r.width=_;rw [←er],?_⟩;show List.length (x.1:List (aw r))=_;rw [←hx];show xs.length=_;rw [PN]
       cases er
       rfl
    |box b qs=>cases av with
     |val _ _=>cases hx
     |io _=>cases hx
     |bL _=>cases hx
     |box _=>trivial
    |bL qs=>cases av with
     |val _ _=>cases hx
     |io _=>cases hx
     |box _=>cases hx
     |bL os=>
      have hx:cL qs (aK (ps.map some)) os y=some x:=hx;exact ⟨_,rfl,El qs _ os y hx⟩
   |succ k=>
    obtain ⟨p',h1,h2⟩:=CP ps da hy k MO (by simpa using hk);refine ⟨p',by simpa using h1,?_⟩;have eh:(ck ((p::ps).map some) x)[k+1]?=(ck (ps.map some) y)[k]?:=by
     show (ck (ps.map some) (p.av (aK (ps.map some)) x).2)[k]?=_;rw [e2]
    cases p'<;>cases MO<;>simp only at h2 ⊢ <;> (try exact h2)
    ·obtain ⟨B,q1,q2,q3⟩:=h2;exact ⟨B,eh.trans q1,q2,q3⟩
    ·obtain ⟨An,q1,q2⟩:=h2;exact ⟨An,eh.trans q1,q2⟩
end Go.TM
namespace Go.TM
open Go Go.RowKit
theorem Jv {P:Program} {fn:Func} {tm:Array Value} {w:World} {vals:List Value} (h:(fn.results.toList.mapM (Ej tm)).run P w=.ok vals w) :
  (results fn tm).run P w=.ok (if hs:vals.toArray.size=1 then vals.toArray[0] else .tuple vals.toArray) w:=by
 have e:results fn tm=(do let vs ←fn.results.mapM (Ej tm);pure (if h:vs.size=1 then vs[0] else .tuple vs):Sem Value):=rfl;rw [e,Array.mapM_eq_mapM_toList];simp [Sem.run_bind,h]
theorem Q4 {c:Cz} {w:World} {mu:Mu} {lc:Nat→Nat→Loc} {da:List AV} {args:Array Value} (hH:Handed c w mu) (hA:ob c w lc 0 da args.toList) {ps:List AP} {x:aw (aK (ps.map some))} (hx:dY ps da=some x) {n:Nat} (hn:ps.length≤n) :
  ∃(FD:Mu) (c':Cz),FD.m=mu.m∧(FD.ok=mu.ok∧FD.rs=mu.rs)∧lF ps FD∧HF FD lc 0 ps da args.toList∧args.size=ps.length∧da.length=ps.length∧
   Rel w FD c' (start n ps x) { tmps:=args++Array.replicate (n-args.size) undef,defers:=[] } w:=by
 obtain ⟨l1,l2,hold⟩:=BN ps 0 da args.toList hx hA;have Q5:=CP ps da hx;have MT:args.size=ps.length:=by rw [l2];simp
 let a:Act:={ tmps:=args++Array.replicate (n-args.size) undef,defers:=[] }
 have U0:∀k v,args.toList[k]?=some v→a.eval (.tmp k)=v:=by
  intro k v hk;have bQ:k<args.size:=by
   have:=(List.getElem?_eq_some_iff.1 hk).1;simpa using this
  show (args++Array.replicate (n-args.size) undef).getD k undef=v;rw [Array.getD_eq_getD_getElem?,Array.getElem?_append_left bQ];rw [Array.getElem?_toList] at hk;rw [hk];rfl
 let FD:Mu:={ m:=mu.m,ok:=mu.ok,an:=Ek lc 0 da args.toList,rs:=mu.rs }
 have hlen:(ck (ps.map some) x++List.replicate (n+1-ps.length) none).length=n+1:=by
  rw [List.length_append,qA];simp;omega
 have IY:∀(i:Nat) (av:AV),(ck (ps.map some) x++List.replicate (n+1-ps.length) none)[i]?=some (some av)→(ck (ps.map some) x)[i]?=some (some av):=by
  intro i av hi
  by_cases h:i<(ck (ps.map some) x).length
  ·rwa [List.getElem?_append_left h] at hi
  ·rw [List.getElem?_append_right (by omega),List.getElem?_replicate] at hi
   split at hi<;>simp at hi
 have Az:CF w FD c w:=⟨fun b l hb=>⟨hH.lt b l hb,(hH.lb b l hb).imp id fun hh=>.inr ((hH.m b).2 ⟨l,hb,hh⟩)⟩,fun b _ hb=>.inr ((hH.ok b).2 hb),⟨rfl,rfl,rfl,Nat.le_refl _⟩,fun _ _ _=>rfl,fun b l hb=>⟨(hH.rs b l hb).1,.inr (.inr (hH.rs b l hb).2)⟩⟩;have Wq:BM c w lc a 0 (ck (ps.map some) x++List.replicate (n+1-ps.length) none):=by
  intro i av hi;obtain ⟨v,h1,h2⟩:=hold i av (IY i av hi);have:=U0 i v h1;rw [Nat.zero_add] at h2 ⊢;rw [this];exact h2
 have U1:∀k av v,da[k]?=some av→args.toList[k]?=some v→sJ c w k (lc k) av v:=by
  have key:∀(da:List AV) (i:Nat) (vs:List Value),ob c w lc i da vs→∀k av v,da[k]?=some av→vs[k]?=some v→sJ c w (i+k) (lc (i+k)) av v:=by
   intro da
   induction da with
   |nil=>intro i vs _ k av v h;simp at h
   |cons a0 da ih=>
    intro i vs h k av v h1 h2;obtain ⟨v0,l,rfl,g1,g2⟩:=h
    cases k with
    |zero=>simp at h1 h2;subst h1 h2;exact g1
    |succ k=>
     have:=ih (i+1) l g2 k av v (by simpa using h1) (by simpa using h2)
     rwa [show i+1+k=i+(k+1) by omega] at this
  intro k av v h1 h2;have:=key da 0 args.toList hA k av v h1 h2
  rwa [Nat.zero_add] at this
 have abV:∀p∈FD.an,QX (ck (ps.map some) x++List.replicate (n+1-ps.length) none) lc a p:=by
  intro p hp;obtain ⟨k,av,v,h1,h2,h3⟩:=tO 0 da args.toList p hp;have hk:k<ps.length:=by rw [l1];exact (List.getElem?_eq_some_iff.1 h1).1
  simp only [Nat.zero_add] at h3;obtain ⟨p',q1,q2⟩:=Q5 k av h1;rcases h3 with ⟨A,rfl,rfl⟩ | ⟨os,rfl,rfl⟩ | ⟨os,j,A,rfl,hj,rfl⟩
  ·refine ⟨rfl,by rw [hlen];omega,fun MO Wr=>.inl ?_⟩
   cases p' with
   |io r dd=>
    obtain ⟨B,e1,e2,e3⟩:=q2;have:=IY k MO Wr;rw [e1] at this;simp only [Option.some.injEq] at this;exact ⟨B,this.symm,fun _=>⟨e2,e3,rfl⟩⟩
   |val _ _=>exact q2.elim
   |box _ _=>exact q2.elim
   |bL _=>exact q2.elim
  ·refine ⟨rfl,by rw [hlen];omega,fun An _ => ?_⟩;obtain ⟨mK,vs,ty,e1,_⟩:=U1 k _ v h1 h2;rw [U0 k v h2,e1]
  ·refine ⟨rfl,by rw [hlen];omega,fun MO Wr=>.inr ?_⟩
   cases p' with
   |io r dd=>exact q2.elim
   |val _ _=>exact q2.elim
   |box _ _=>exact q2.elim
   |bL qs=>
    obtain ⟨An,e1,e2⟩:=q2;have:=IY k MO Wr;rw [e1] at this;simp only [Option.some.injEq] at this;obtain ⟨_,B,e3,e4,e5⟩:=e2 j A hj;refine ⟨An,this.symm,fun A' ek => ?_⟩;rw [e3] at ek;injection ek with ek;injection ek with ek;subst ek;exact ⟨e4,e5,rfl⟩
 obtain ⟨c',hR⟩:=Rel.MQ (a:=a) Az rfl Wq abV;refine ⟨FD,c',rfl,⟨rfl,rfl⟩,fun p hp => ?_,fun k p av v h0 h1 h2 => ?_,MT,l1.symm,hR⟩
 ·obtain ⟨k,av,v,h1,h2,h3⟩:=tO 0 da args.toList p hp;simp only [Nat.zero_add] at h3;obtain ⟨p',q1,q2⟩:=Q5 k av h1;rcases h3 with ⟨A,rfl,rfl⟩ | ⟨os,rfl,rfl⟩ | ⟨os,j,A,rfl,hj,rfl⟩
  ·cases p' with
   |io r dd=>exact .inl ⟨k,r,_,_,_,rfl,dd,q1⟩
   |val _ _=>exact q2.elim
   |box _ _=>exact q2.elim
   |bL _=>exact q2.elim
  ·cases p' with
   |io r dd=>exact q2.elim
   |val _ _=>exact q2.elim
   |box b qs=>exact .inr (.inl ⟨k,_,b,qs,rfl,q1⟩)
   |bL _=>exact q2.elim
  ·cases p' with
   |io r dd=>exact q2.elim
   |val _ _=>exact q2.elim
   |box b qs=>exact q2.elim
   |bL qs=>exact .inr (.inr ⟨k,j,_,_,_,qs,rfl,q1⟩)
 ·obtain ⟨p',q1,q2⟩:=Q5 k av h1;rw [h0] at q1
  cases q1
  have hh:=U1 k av v h1 h2;obtain ⟨a1,a2,a3⟩:=MS (lc:=lc) 0 da args.toList (by rw [←l1,l2]) k av v h1 h2;rw [Nat.zero_add] at a1 a2 a3 ⊢
  cases p with
  |val _ _=>cases av with
   |val _ _=>trivial
   |io _=>exact q2.elim
   |box _=>exact q2.elim
   |bL _=>exact q2.elim
  |bL qs=>cases av with
   |val _ _=>exact q2.elim
   |io _=>exact q2.elim
   |box _=>exact q2.elim
   |bL os=>
    obtain ⟨us,rfl,hl,QJ⟩:=hh;obtain ⟨An,_,e2⟩:=q2;obtain ⟨n1,_⟩:=a7.QW os 0 _ hl;refine ⟨us,rfl,fun j A hj=>⟨(e2 j A hj).1,?_⟩⟩;have bQ:j<us.toList.length:=by rw [n1];exact (List.getElem?_eq_some_iff.1 hj).1
    have hO:OwnAt c w (.bK k j) (lc k j) A us.toList[j]:=QJ j _ _ hj (List.getElem?_eq_getElem bQ);exact ⟨_,List.getElem?_eq_getElem bQ,hO.1,hO.2.1,a3 os rfl j A hj⟩
  |io r dd=>cases av with
   |val _ _=>exact q2.elim
   |box _=>exact q2.elim
   |bL _=>exact q2.elim
   |io A=>
    have hO:OwnAt c w (.bK k 0) (lc k 0) A v:=hh;exact ⟨hO.1,hO.2.1,a1 A rfl⟩
  |box _ _=>cases av with
   |val _ _=>exact q2.elim
   |io _=>exact q2.elim
   |bL _=>exact q2.elim
   |box os=>
    obtain ⟨mK,vs,ty,e1,_⟩:=hh;refine ⟨mK,e1,?_⟩;have:=a2 os rfl;rw [e1] at this;exact this
theorem Ws {P:Program} {T:kK} (hT:fG P T) {w0:World} {mu FD:Mu} (hm:FD.m=mu.m) (fk:FD.ok=mu.ok∧FD.rs=mu.rs) {c:Cz} {st:St} {a:Act} {w:World} (h:Rel w0 FD c st a w) {fn:Func} {ps:List AP} {rs:List RP} (P8:yU T a.tmps fn.results.toList rs)
  {lc:Nat→Nat→Loc} {da:List AV} {vs:List Value} (h1:ps.length=da.length) (h2:ps.length=vs.length) (hl:HF FD lc 0 ps da vs) {e:Ex} {y:aw (cN rs (bC ps))} (hf:FB rs ps e st=some y) :
  (e=.normal∨e=.ret)∧∃v,(results fn a.tmps).run P w=.ok v w∧∃c',CF w0 mu c' w∧qm c' w (fJ rs (bC ps) y).1 v∧gI c' w lc 0 da vs (mE ps (fJ rs (bC ps) y).2):=by
 have he:e=.normal∨e=.ret:=by
  cases e with
  |normal=>exact .inl rfl
  |ret=>exact .inr rfl
  |exit m=>cases hf
 refine ⟨he,?_⟩;have hf:((td st 0 ps).bind fun x=>(Ei st rs (bC ps) x.1).bind fun q=>bif uk (bR q.2.1++x.2.1)&&apart (bR q.2.1++x.2.1) (q.2.2++x.2.2) then some q.1 else none)=some y:=by
  rcases he with rfl | rfl<;>exact hf
 obtain ⟨qx,hqx,hf⟩:=Option.bind_eq_some_iff.1 hf;obtain ⟨qr,hqr,hf⟩:=Option.bind_eq_some_iff.1 hf;obtain ⟨tf,hy⟩:=aI hf;injection hy with hy;obtain ⟨x1,u1,r1⟩:=qx;obtain ⟨x2,u2,r2⟩:=qr;subst hy;rw [Bool.and_eq_true] at tf;obtain ⟨a1,tb,a2,a3,a4⟩:=tN h ps 0 da vs h1 h2 hl hqx;obtain ⟨b1,b2,b3,vals,b4,b5,b6⟩:=Gz hT h fn.results.toList rs P8 (bC ps) x1 hqr;have CK:∀l∈bR u2++u1,l.real=true:=fun l hl=>(List.mem_append.1 hl).elim (b3 l) (a1 l)
 have Hv:=oL _ CK tf.1;have Fp:∀p∈r2++r1,Lb.sp p.1 p.2∉bR u2++u1:=by
  intro p hp hm;have h1:=List.all_eq_true.1 tf.2 p hp;have h2:=List.all_eq_true.1 h1 _ hm;rw [(Lb.Ao rfl).2 rfl] at h2
  cases h2
 let tab:=Aq .eF 0 u2++tb
 have abW:tab.map (·.1)=bR u2++u1:=by show (Aq .eF 0 u2++tb).map _=_;rw [List.map_append,Ar,a2]
 have l9:=Classical.propDecidable
 let ρ:Lb→Option Lb:=fun l=>match look tab l with | some y=>some y | none=>if l=.out then some .out else none
 have hρt:∀p∈tab,ρ p.1=some p.2:=by
  intro p hp;have:=Ap tab (by rw [abW];exact Hv) hp;show (match look tab p.1 with | some y=>some y | none=>_)=_;rw [this]
 have Ay:∀ {l y},look tab l=some y→l∈bR u2++u1:=by
  intro l y hl;have:=xI tab hl;rw [←abW];exact List.mem_map.2 ⟨_,this,rfl⟩
 have hρr:∀p∈r2++r1,ρ (.sp p.1 p.2)=none:=by
  intro p hp;show (match look tab (.sp p.1 p.2) with | some y=>some y | none=>if Lb.sp p.1 p.2=.out then some Lb.out else none)=none
  cases hl:look tab (.sp p.1 p.2) with
  |some y=>exact absurd (Ay hl) (Fp p hp)
  |none=>simp
 have hρo:ρ .out=some .out:=by
  show (match look tab Lb.out with | some y=>some y | none=>if Lb.out=Lb.out then some Lb.out else none)=_
  cases hl:look tab Lb.out with
  |some y=>have:=CK _ (Ay hl);cases this
  |none=>simp
 have Az:CF w0 mu (c.map ρ) w:=by
  refine ⟨fun b l hb => ?_,fun b hb hn => ?_,h.kept,by rw [←hm];exact h.old,fun b l hb => ?_⟩
  ·obtain ⟨k,hk,e⟩:=Cz.map_some hb;obtain ⟨g1,g2⟩:=h.owned b k hk;refine ⟨g1,?_⟩;rw [←hm];refine g2.imp (fun e2 => ?_) id;subst e2;rw [hρo] at e
   cases e;rfl
  ·rw [←hm,←fk.1]
   cases hk:c.own b with
   |none=>exact h.free b hb hk
   |some k=>
    have e:ρ k=none:=(Cz.kN (ρ:=ρ) hk).symm.trans hn;rcases (h.owned b k hk).2 with g | g | g
    ·subst g;rw [hρo] at e;cases e
    ·exact absurd g (Nat.not_le_of_lt hb)
    ·exact .inl g
  ·obtain ⟨k,hk,_⟩:=Cz.sK hb;rw [←hm,←fk.2];exact h.lS b k hk
 have hX:=a4 ρ (fun p hp=>hρt p (List.mem_append_right _ hp)) (fun p hp=>hρr p (List.mem_append_right _ hp));have hR:=b6 ρ 0 (fun k l hk=>by
  have:=hρt _ (List.mem_append_left tb (wM .eF 0 u2 k l hk));exact this) (fun p hp=>hρr p (List.mem_append_left _ hp))
 refine ⟨_,Jv b4,c.map ρ,Az,?_,by rw [b1];exact hX⟩;have hlen:vals.length=(fJ rs (bC ps) x2).1.length:=by
  have:rs.length=fn.results.toList.length:=by
   have key:∀(l:List ResultVar) (m:List RP),yU T a.tmps l m→m.length=l.length:=by
    intro l
    induction l with
    |nil=>intro m hm;cases m with
     |nil=>rfl
     |cons _ _=>exact hm.elim
    |cons v l ih=>intro m hm;cases m with
     |nil=>exact hm.elim
     |cons r m=>simp [ih m hm.2]
   exact key _ _ P8
  rw [b5,b2,this]
 by_cases hs:vals.toArray.size=1
 ·rw [dif_pos hs];have Ad:vals.length=1:=by simpa using hs
  obtain ⟨v,rfl⟩:∃v,vals=[v]:=by
   cases vals with
   |nil=>cases Ad
   |cons v l=>cases l with
    |nil=>exact ⟨v,rfl⟩
    |cons _ _=>simp at Ad
  rw [Ad] at hlen
  cases ho:(fJ rs (bC ps) x2).1 with
  |nil=>rw [ho] at hlen;cases hlen
  |cons r l=>cases l with
   |cons _ _=>rw [ho] at hlen;simp at hlen
   |nil=>
    rw [ho] at hR;exact .inl ⟨r,rfl,hR⟩
 ·rw [dif_neg hs];refine .inr ⟨by rw [←hlen];simpa using hs,vals.toArray,rfl,by simpa using hR⟩
theorem Jw {P:Program} {T:kK} (hT:fG P T) (hE:yQ P T) {S:kV} (hS:od P S) {D:mJ} {f:FuncId} {fn:Func} {code:Code} {n:Nat} {ps:List AP} {rs:List RP} {L:qk (aw (cN rs (bC ps)))} {U4:Nat→Array Oper→Prop}
  {t:aw (aK (ps.map some))→Option (aw (cN rs (bC ps)))}
  (hf:P.funcs[f]?=some fn) (hb:fn.body=some code) (hn:fn.ntmps=n) (Qm:ps.length≤n) (sv:jm n code=true) (BA:∀tm,yU T tm fn.results.toList rs)
  (hL:∀(w0:World) (mu:Mu) (y:aw (cN rs (bC ps))),lF ps mu→fp (oa P w0 mu n L y) code)
  (hD:∀(w0:World) (mu:Mu),tH (aw (cN rs (bC ps))) P T S D w0 mu n U4) (hD2:fI U4 code)
  (Q6:∀(w0:World) (mu:Mu) (c:Cz) (a:Act) (w:World) x,Rel w0 mu c (start n ps x) a w→a.tmps.size=n→∃c2 fB,Rel w0 mu c2 fB a w∧fj T S D L code fB (FB rs ps)=t x):FnOk P f (kO ps rs t):=by
 intro c w mu lc da args A y hH hA hs ho;unfold kO at hs
 cases hx:dY ps da with
 |none=>rw [hx] at hs;cases hs
 |some x=>
  rw [hx] at hs;simp only [Option.some.injEq] at hs;subst hs;have Fq:t x=some y:=ho;obtain ⟨FD,c',hm,fk,Wt,abY,MT,Wi,hR⟩:=Q4 hH hA hx Qm;refine calls_of_wp hf hb ?_;rw [hn];have jJ:(args++Array.replicate (n-args.size) undef).size=n:=by simp;omega
  obtain ⟨c2,fB,hR2,abZ⟩:=Q6 w FD c' _ w x hR jJ;refine I7 (AF hT hE hS w FD n) (hD w FD) code sv (hL w FD y Wt) hD2 (fun {e} {c1} {vQ} {a1} {w1} h1 h2 h3 => ?_) hR2 jJ (abZ.trans Fq);obtain ⟨he,v,qz,c2,Jg,hV,hX⟩:=Ws (P:=P) hT hm fk h1 (BA a1.tmps) Wi.symm (by rw [←MT];simp) abY h3;have QE:a1.defers=[]∧∃v,(results fn a1.tmps).run P w1=.ok v w1∧(∃v',Ending.returned v=.returned v'∧∃c',CF w mu c' w1∧qm c' w1 (fJ rs (bC ps) y).1 v'∧gI c' w1 lc 0 da args.toList (mE ps (fJ rs (bC ps) y).2)):=
   ⟨h1.plain,v,qz,v,rfl,c2,Jg,hV,hX⟩
  rcases he with rfl | rfl<;>exact QE
theorem ab0 {P:Program} {T:kK} (hT:fG P T) (hE:yQ P T) {S:kV} (hS:od P S) {D:mJ} {f:FuncId} {fn:Func} {code:Code} {n:Nat} {ps:List AP} {rs:List RP} {L:qk (aw (cN rs (bC ps)))} {U4:Nat→Array Oper→Prop}
  {t:aw (aK (ps.map some))→Option (aw (cN rs (bC ps)))}
  (hf:P.funcs[f]?=some fn) (hb:fn.body=some code) (hn:fn.ntmps=n) (Qm:ps.length≤n) (sv:jm n code=true) (BA:∀tm,yU T tm fn.results.toList rs)
  (hL:∀(w0:World) (mu:Mu) (y:aw (cN rs (bC ps))),lF ps mu→fp (oa P w0 mu n L y) code)
  (hD:∀(w0:World) (mu:Mu),tH (aw (cN rs (bC ps))) P T S D w0 mu n U4) (hD2:fI U4 code)
  (Q6:∀x,fj T S D L code (start n ps x) (FB rs ps)=t x):FnOk P f (kO ps rs t):=
 Jw hT hE hS hf hb hn Qm sv BA hL hD hD2 (fun _ _ c _ _ x h _=>⟨c,_,h,Q6 x⟩)
end Go.TM
namespace Go.TM
open Go Go.RowKit
def iter {X E:Type} (round:X→Option (Sum X E)):Nat→X→Option E
 |0,_=>none
 |n+1,x=>match round x with
  |some (.inl y)=>iter round n y
  |some (.inr e)=>some e
  |none=>none
theorem BO {X E:Type} {round:X→Option (Sum X E)}:(n:Nat)→{x:X}→{e:E}→iter round n x=some e→∀m,n≤m→iter round m x=some e
 |0,_,_,h,_,_=>by cases h
 |n+1,x,e,h,0,hm=>by omega
 |n+1,x,e,h,m+1,hm=>by
  unfold iter at h ⊢
  cases hr:round x with
  |none=>rw [hr] at h;cases h
  |some z=>cases z with
   |inl y=>rw [hr] at h;exact BO n h m (by omega)
   |inr e'=>rw [hr] at h;exact h
noncomputable def aG {X E:Type} (round:X→Option (Sum X E)) (x:X):Option E:=
 have:=Classical.propDecidable (∃e n,iter round n x=some e)
 if h:∃e n,iter round n x=some e then some (Classical.choose h) else none
theorem Em {X E:Type} {round:X→Option (Sum X E)} {x:X} {e:E} {n:Nat} (h:iter round n x=some e):aG round x=some e:=by
 have hex:∃e n,iter round n x=some e:=⟨e,n,h⟩;unfold aG;simp only;rw [dif_pos hex];obtain ⟨m,hm⟩:=Classical.choose_spec hex;have h1:=BO m hm (max m n) (Nat.le_max_left _ _);have h2:=BO n h (max m n) (Nat.le_max_right _ _);rw [h1] at h2;exact h2
theorem uI {X E:Type} {round:X→Option (Sum X E)} {x:X} {e:E} (h:aG round x=some e):∃n,iter round n x=some e:=by
 unfold aG at h;simp only at h
 split at h
 ·rename_i hex;injection h with h;rw [←h];exact Classical.choose_spec hex
 ·cases h
theorem iL {X E:Type} (round:X→Option (Sum X E)) (x:X):aG round x=match round x with | some (.inl y)=>aG round y | some (.inr e)=>some e | none=>none:=by
 cases hr:round x with
 |none=>
  cases h:aG round x with
  |none=>rfl
  |some e=>
   obtain ⟨n,hn⟩:=uI h
   cases n with
   |zero=>cases hn
   |succ n=>unfold iter at hn;rw [hr] at hn;cases hn
 |some z=>cases z with
  |inr e=>exact Em (n:=1) (by unfold iter;rw [hr])
  |inl y=>
   simp only
   cases h:aG round y with
   |some e=>
    obtain ⟨n,hn⟩:=uI h;exact Em (n:=n+1) (by unfold iter;rw [hr];exact hn)
   |none=>
    cases h2:aG round x with
    |none=>rfl
    |some e=>
     obtain ⟨n,hn⟩:=uI h2
     cases n with
     |zero=>cases hn
     |succ n=>
      unfold iter at hn;rw [hr] at hn;rw [Em hn] at h
      cases h
def U7 (st:St) (hp:List (Option AP)):Option (aw (aK hp)):=
 (nm st 0 hp).bind fun q=>bif uk q.2.1&&apart q.2.1 q.2.2 then some q.1 else none
def wU (hp:List (Option AP)) (x:aw (aK hp)):St:=nZ 0 (ck hp x)
def gv:List AP→List (Option AP)→Bool
 | [],_=>true
 |.val _ _::ps,_::hp=>gv ps hp
 |.io _ _::ps,o::hp=>(match o with | none=>true | some (.io _ _)=>true | _=>false)&&gv ps hp
 |.box _ _::ps,o::hp=>(match o with | none=>true | some (.box l _)=>l | some (.val _ _)=>true | _=>false)&&gv ps hp
 |.bL _::_,_::_=>false
 |_::_,[]=>false
theorem uJ:(ps:List AP)→(hp:List (Option AP))→gv ps hp=true→∀(i:Nat) (p:AP),ps[i]?=some p→∃o,hp[i]?=some o∧match p with
  |.val _ _=>True
  |.io _ _=>o=none∨∃r d,o=some (.io r d)
  |.box _ _=>o=none∨(∃a b,o=some (.val a b))∨∃b,o=some (.box true b)
  |.bL _=>False
 | [],_,_=>by intro i p h;simp at h
 |p::ps,[],h=>by cases p<;>simp [gv] at h
 |p::ps,o::hp,h=>by
  intro i p' hi;have fC:gv ps hp=true:=by
   cases p with
   |val _ _=>exact h
   |io _=>unfold gv at h;rw [Bool.and_eq_true] at h;exact h.2
   |bL _=>cases h
   |box _ _=>unfold gv at h;rw [Bool.and_eq_true] at h;exact h.2
  cases i with
  |succ i=>exact (uJ ps hp fC i p' (by simpa using hi)).imp fun o ho=>⟨by simpa using ho.1,ho.2⟩
  |zero=>
   simp only [List.getElem?_cons_zero,Option.some.injEq] at hi;subst hi;refine ⟨o,rfl,?_⟩
   cases p with
   |val _ _=>trivial
   |bL _=>cases h
   |io _=>
    unfold gv at h;rw [Bool.and_eq_true] at h
    cases o with
    |none=>exact .inl rfl
    |some q=>cases q with
     |io r d=>exact .inr ⟨r,d,rfl⟩
     |val _ _=>cases h.1
     |box _ _=>cases h.1
     |bL _=>cases h.1
   |box _ _=>
    unfold gv at h;rw [Bool.and_eq_true] at h
    cases o with
    |none=>exact .inl rfl
    |some q=>cases q with
     |io r d=>cases h.1
     |bL _=>cases h.1
     |val a b=>exact .inr (.inl ⟨a,b,rfl⟩)
     |box l b=>
      have:l=true:=h.1;subst this;exact .inr (.inr ⟨b,rfl⟩)
end Go.TM
namespace Go.TM
open Go Go.RowKit
theorem Q7 {st:St} {k:Nat} {rr:RT} {dd:Md} {t:RT} {V:V} {y:aw t} {x:aw (.cons (.sl rr) t)} {u:List Lb} {r:List (Nat×Nat)} (h:CN st k (.io rr dd) t V y=some (x,u,r)):∃A,aT st k 0 1=some A∧bw rr A.xs=some x.1:=by
 cases V with
 |agg _=>cases h
 |m9 _=>cases h
 |one cx=>cases cx with
  |ref a j g vw=>cases vw with
   |full=>
    have h:(bif Nat.beq a k&&(Nat.beq j 0&&Nat.beq g 1) then ((aT st a j g).bind fun A=>bif A.own&&A.md.is dd then (bw rr A.xs).map fun xs=>((xs,y),[Lb.sp a j],([]:List (Nat×Nat))) else none) else none)=some (x,u,r):=h;obtain ⟨h1,h2⟩:=aI h;rw [Bool.and_eq_true,Bool.and_eq_true] at h1;have e1:=Nat.eq_of_beq_eq_true h1.1;have e2:=Nat.eq_of_beq_eq_true h1.2.1;have e3:=Nat.eq_of_beq_eq_true h1.2.2;subst e1 e2 e3;obtain ⟨A,hA,h3⟩:=Option.bind_eq_some_iff.1 h2;obtain ⟨_,h4⟩:=aI h3;obtain ⟨xs,UZ,e⟩:=Option.map_eq_some_iff.1 h4;injection e with e _;exact ⟨A,hA,by rw [UZ,←e];rfl⟩
   |«from» _=>cases h
   |sub _ _=>cases h
  |_=>cases h
theorem Oe {st:St} {k:Nat} {qs:List OP} {t:RT} {V:V} {y:aw t} {x:aw (lR qs t)} {u:List Lb} {r:List (Nat×Nat)} (h:CN st k (.box true qs) t V y=some (x,u,r)):V=.one (.ptr k 1 0)∧∃cs,cW st k 1=some cs:=by
 cases V with
 |agg _=>cases h
 |m9 _=>cases h
 |one cx=>cases cx with
  |ptr b g off=>
   have h:(bif Nat.beq off 0&&(!true||(Nat.beq b k&&Nat.beq g 1)) then ((cW st b g).bind fun cs=>(ld st qs t cs y).map fun q=>(q.1,Lb.box b::bR q.2.1,q.2.2)) else none)=some (x,u,r):=h;obtain ⟨h1,h2⟩:=aI h;simp only [Bool.not_true,Bool.false_or] at h1;rw [Bool.and_eq_true,Bool.and_eq_true] at h1;have e1:=Nat.eq_of_beq_eq_true h1.1;have e2:=Nat.eq_of_beq_eq_true h1.2.1;have e3:=Nat.eq_of_beq_eq_true h1.2.2;subst e1 e2 e3;obtain ⟨cs,ud,_⟩:=Option.bind_eq_some_iff.1 h2;exact ⟨rfl,cs,ud⟩
  |_=>cases h
theorem wV {w0:World} {mu:Mu} {c:Cz} {st:St} {a:Act} {w:World} (h:Rel w0 mu c st a w):(l:List (Option AP))→(k:Nat)→{x:aw (aK l)}→{u:List Lb}→{r:List (Nat×Nat)}→nm st k l=some (x,u,r)→∀(i:Nat),
  (∀rr dd,l[i]?=some (some (.io rr dd))→∃B A:fT,(ck l x)[i]?=some (some (.io B))∧aT st (k+i) 0 1=some A∧B.r.width=A.r.width∧B.xs.length=A.xs.length)∧
  (∀qs,l[i]?=some (some (.box true qs))→(∃cs,cW st (k+i) 1=some cs)∧bI st (k+i)=.one (.ptr (k+i) 1 0))∧
  (l[i]?=some none→(ck l x)[i]?=some none)∧(∀ag b,l[i]?=some (some (.val ag b))→∃os,(ck l x)[i]?=some (some (.val ag os)))
 | [],k,x,u,r,he=>by intro i;simp
 |none::l,k,x,u,r,he=>by
  intro i
  cases i with
  |zero=>exact ⟨fun _ _ h=>by simp at h,fun _ h=>by simp at h,fun _=>rfl,fun _ _ h=>by simp at h⟩
  |succ i=>
   have:=wV h l (k+1) he i;rw [show k+1+i=k+(i+1) by omega] at this;exact this
 |some p::l,k,x,u,r,he=>by
  intro i;unfold nm at he
  cases h1:nm st (k+1) l with
  |none=>simp [h1] at he
  |some q1=>
   obtain ⟨y,us,rs⟩:=q1;simp only [h1] at he
   cases h2:CN st k p (aK l) (bI st k) y with
   |none=>simp [h2] at he
   |some q2=>
    obtain ⟨x1,u1,r1⟩:=q2;simp only [h2] at he;injection he with he;injection he with e1 e2;subst e1
    cases i with
    |succ i=>
     have hh:=wV h l (k+1) h1 i;rw [show k+1+i=k+(i+1) by omega] at hh;have e:(p.av (aK l) x1).2=y:=(AG h k (h.dO k) h2).1;have e2:(ck (some p::l) x1)[i+1]?=(ck l y)[i]?:=by
      show (ck l (p.av (aK l) x1).2)[i]?=_;rw [e]
     rw [e2];exact hh
    |zero=>
     have e2:(ck (some p::l) x1)[0]?=some (some (p.av (aK l) x1).1):=rfl;rw [e2];simp only [List.getElem?_cons_zero,Option.some.injEq,Nat.add_zero];refine ⟨fun rr dd e => ?_,fun qs e => ?_,(fun e=>by cases e),fun ag b e => ?_⟩
     ·subst e;obtain ⟨A,hA,hc⟩:=Q7 h2;obtain ⟨er,PN⟩:=bd hc;refine ⟨_,A,rfl,hA,by show rr.width=_;rw [←er],?_⟩;show List.length (x1.1:List (aw rr))=_;rw [PN]
      cases er
      rfl
     ·subst e;obtain ⟨q1,q2⟩:=Oe h2;exact ⟨q2,q1⟩
     ·subst e;exact ⟨_,rfl⟩
end Go.TM
namespace Go.TM
open Go Go.RowKit
theorem Q8 {w0:World} {mu:Mu} {c:Cz} {st:St} {a:Act} {w:World} (h:Rel w0 mu c st a w) {ps:List AP} (hs:lF ps mu) {hp:List (Option AP)} (pC:gv ps hp=true) {x:aw (aK hp)} (hx:U7 st hp=some x):∃c',Rel w0 mu c' (wU hp x) a w:=by
 obtain ⟨q,hq,KS⟩:=Option.bind_eq_some_iff.1 hx;obtain ⟨tf,Aj⟩:=aI KS;injection Aj with Aj;obtain ⟨x0,u,r⟩:=q;subst Aj;rw [Bool.and_eq_true] at tf;obtain ⟨CK,tb,QD,abD,hold⟩:=wT h hp 0 hq;have hat:=wV h hp 0 hq;have Hv:=oL _ CK tf.1;have Fp:∀p∈r,Lb.sp p.1 p.2∉u:=by
  intro p hp hm;have h1:=List.all_eq_true.1 tf.2 p hp;have h2:=List.all_eq_true.1 h1 _ hm;rw [(Lb.Ao rfl).2 rfl] at h2
  cases h2
 have l9:=Classical.propDecidable
 let ρ:Lb→Option Lb:=fun l=>match look tb l with | some y=>some y | none=>if l=.out then some .out else none
 have hρt:∀p∈tb,ρ p.1=some p.2:=by
  intro p hp;have:=Ap tb (by rw [QD];exact Hv) hp;show (match look tb p.1 with | some y=>some y | none=>_)=_;rw [this]
 have Ay:∀ {l y},look tb l=some y→l∈u:=by
  intro l y hl;have:=xI tb hl;rw [←QD];exact List.mem_map.2 ⟨_,this,rfl⟩
 have hρr:∀p∈r,ρ (.sp p.1 p.2)=none:=by
  intro p hp;show (match look tb (.sp p.1 p.2) with | some y=>some y | none=>if Lb.sp p.1 p.2=.out then some Lb.out else none)=none
  cases hl:look tb (.sp p.1 p.2) with
  |some y=>exact absurd (Ay hl) (Fp p hp)
  |none=>simp
 have hρo:ρ .out=some .out:=by
  show (match look tb Lb.out with | some y=>some y | none=>if Lb.out=Lb.out then some Lb.out else none)=_
  cases hl:look tb Lb.out with
  |some y=>have:=CK _ (Ay hl);cases this
  |none=>simp
 have Az:CF w0 mu (c.map ρ) w:=by
  refine ⟨fun b l hb => ?_,fun b hb hn => ?_,h.kept,h.old,fun b l hb => ?_⟩
  ·obtain ⟨k,hk,e⟩:=Cz.map_some hb;obtain ⟨g1,g2⟩:=h.owned b k hk;refine ⟨g1,g2.imp (fun e2 => ?_) id⟩;subst e2;rw [hρo] at e
   cases e;rfl
  ·cases hk:c.own b with
   |none=>exact h.free b hb hk
   |some k=>
    have e:ρ k=none:=(Cz.kN (ρ:=ρ) hk).symm.trans hn;rcases (h.owned b k hk).2 with g | g | g
    ·subst g;rw [hρo] at e;cases e
    ·exact absurd g (Nat.not_le_of_lt hb)
    ·exact .inl g
  ·obtain ⟨k,hk,_⟩:=Cz.sK hb;exact h.lS b k hk
 refine Rel.MQ Az h.plain (hold ρ hρt hρr) (fun p hpm => ?_);have Tl:=h.cR p hpm;have hlen:∀(i:Nat) (o:Option AP),hp[i]?=some o→i<(ck hp x0).length:=fun i o ho=>by rw [qA];exact (List.getElem?_eq_some_iff.1 ho).1
 rcases hs p hpm with ⟨i,rr,W,n,l,rfl,dd,Wb⟩ | ⟨i,mK,b,qs,rfl,Wb⟩ | ⟨i,j,W,n,l,qs,rfl,Wb⟩
 ·obtain ⟨o,ho,ho2⟩:=uJ ps hp pC i _ Wb;refine ⟨rfl,hlen i o ho,fun av Jh=>.inl ?_⟩;rcases ho2 with rfl | ⟨r2,d2,rfl⟩
  ·rw [(hat i).2.2.1 ho] at Jh;cases Jh
  ·obtain ⟨B,A,e1,e2,e3,e4⟩:=(hat i).1 r2 d2 ho;rw [e1] at Jh;simp only [Option.some.injEq] at Jh;rw [Nat.zero_add] at e2;obtain ⟨f1,f2,f3⟩:=Tl.2 A e2;exact ⟨B,Jh.symm,fun _=>⟨e3.trans f1,e4.trans f2,f3⟩⟩
 ·obtain ⟨o,ho,ho2⟩:=uJ ps hp pC i _ Wb;refine ⟨rfl,hlen i o ho,fun os rn => ?_⟩;rcases ho2 with rfl | ⟨a1,b1,rfl⟩ | ⟨b1,rfl⟩
  ·rw [(hat i).2.2.1 ho] at rn;cases rn
  ·obtain ⟨An,e⟩:=(hat i).2.2.2 a1 b1 ho;rw [e] at rn;cases rn
  ·obtain ⟨⟨cs,ud⟩,hv⟩:=(hat i).2.1 b1 ho;rw [Nat.zero_add] at ud hv;have tK:=h.dO i;rw [hv] at tK;rw [tK.2.2 cs ud,Tl.2 cs ud]
 ·obtain ⟨o,ho,ho2⟩:=uJ ps hp pC i _ Wb;exact ho2.elim
def MU:List OP→List CV→List (Nat×Nat)
 |.own _ .lz::ps,.ref a j _ _::cs=>(a,j)::MU ps cs
 |_::ps,_::cs=>MU ps cs
 |_,_=>[]
def yV (st:St):(k:Nat)→List (Option AP)→List (Nat×Nat)
 |_,[]=>[]
 |k,some (.box _ qs)::l=>(match bI st k with | .one (.ptr b g _)=>(match cW st b g with | some cs=>MU qs cs | none=>[]) | _=>[])++yV st (k+1) l
 |k,some (.val _ qs)::l=>MU qs (bI st k).cells++yV st (k+1) l
 |k,_::l=>yV st (k+1) l
def MV (st:St) (hp:List (Option AP)):Option (aw (aK hp)):=U7 (DK st (yV st 0 hp)) hp
theorem MW {w0:World} {mu:Mu} {c:Cz} {st:St} {a:Act} {w:World} (h:Rel w0 mu c st a w) {ps:List AP} (hs:lF ps mu) {hp:List (Option AP)} (pC:gv ps hp=true) {x:aw (aK hp)} (hx:MV st hp=some x):∃c',Rel w0 mu c' (wU hp x) a w:=by
 obtain ⟨c1,h1,_⟩:=AD (yV st 0 hp) h;exact Q8 h1 hs pC hx
def nameOf (st:St) (s j:Nat):Option (Nat×Nat×Nat):=match bI st s with
 |.one (.ptr b g 0)=>(match cW st b g with
  |some cs=>(match nth cs j with
   |some (.ref a i h .full)=>some (a,i,h)
   |_=>none)
  |none=>none)
 |_=>none
def isName (n:Nat×Nat×Nat):V→Bool
 |.one (.ref a i g .full)=>Nat.beq a n.1&&(Nat.beq i n.2.1&&Nat.beq g n.2.2)
 |.one (.Mv a i g)=>Nat.beq a n.1&&(Nat.beq i n.2.1&&Nat.beq g n.2.2)
 |_=>false
def HG (st fB:St) (p:Nat×Nat×Nat):Bool:=match nameOf st p.2.1 p.2.2,nameOf fB p.2.1 p.2.2 with
 |some n,some m=>(aT st n.1 n.2.1 n.2.2).isSome&&((aT fB m.1 m.2.1 m.2.2).isSome&&isName n (bI st p.1))
 |_,_=>false
def Dw (fB:St):List (Nat×Nat×Nat)→St→St
 | [],st=>st
 |p::al,st=>Dw fB al (match nameOf fB p.2.1 p.2.2 with
  |some m=>aZ st (some p.1) (.one (.Mv m.1 m.2.1 m.2.2))
  |none=>st)
def sL (al:List (Nat×Nat×Nat)) (hp:List (Option AP)) (x:aw (aK hp)):St:=Dw (wU hp x) al (wU hp x)
def K7 (al:List (Nat×Nat×Nat)) (st:St) (hp:List (Option AP)):Option (aw (aK hp)):=
 (MV st hp).bind fun x=>bif al.all (HG (DK st (yV st 0 hp)) (wU hp x)) then some x else none
theorem K8 {l:Loc} {W n:Nat} {v:Value} (h:fm l W 0 n v):SlR l n v:=by
 cases l with
 |nil=>exact ⟨none,0,by rw [h.1,h.2],fun hn=>absurd h.2 hn⟩
 |«at» b off cap=>
  obtain ⟨a,k,h1,h2,h3,h4⟩:=h;refine ⟨some a,k,h1,fun hn=>⟨b,off,cap,rfl,?_⟩⟩;rw [h4 (by omega),Nat.zero_mul,Nat.add_zero]
theorem Jx {w0:World} {mu:Mu} {c:Cz} {st:St} {a:Act} {w:World} (h:Rel w0 mu c st a w) {s j:Nat} {n:Nat×Nat×Nat} (hn:nameOf st s j=some n) :
  ∃mK vs ty u,a.eval (.tmp s)=.pointer (some ⟨mK,0,none⟩)∧w.heap[mK]?=some (.cells vs ty (0,0))∧vs.toList[j]?=some u∧iI c st w (.ref n.1 n.2.1 n.2.2 .full) u:=by
 have hr:=h.dO s;unfold nameOf at hn
 split at hn
 ·rename_i b g hv;rw [hv] at hr
  cases hb:cW st b g with
  |none=>rw [hb] at hn;cases hn
  |some cs=>
   rw [hb] at hn;simp only at hn;have hp:=hr.2.2 cs hb;have zV:∃sl,nth st b=some sl∧sl.box=some cs:=by
    unfold cW at hb
    cases hs:nth st b with
    |none=>rw [hs] at hb;cases hb
    |some sl=>rw [hs] at hb;exact ⟨sl,rfl,(aI hb).2⟩
   obtain ⟨sl,yl,IJ⟩:=zV;obtain ⟨_,vs,ty,k1,k2,k3⟩:=h.boxes b sl cs yl IJ
   cases hc:nth cs j with
   |none=>rw [hc] at hn;cases hn
   |some x=>
    rw [hc] at hn;rw [gd] at hc;have Wu:j<vs.toList.length:=by rw [←k2];exact (List.getElem?_eq_some_iff.1 hc).1
    have k4:=k3 j x _ hc (List.getElem?_eq_getElem Wu)
    split at hn
    ·rename_i e;injection e with e;injection hn with hn;subst hn e;exact ⟨c.bx b,vs,ty,_,hp,k1,List.getElem?_eq_getElem Wu,k4⟩
    ·cases hn
 ·cases hn
theorem K9 {c:Cz} {st:St} {w:World} {n:Nat×Nat×Nat} {x:V} {v:Value} (hx:isName n x=true) (hr:eD c st w x v) {A:fT} (hA:aT st n.1 n.2.1 n.2.2=some A):v.oneCell'=true∧SlR (c.lc n.1 n.2.1) A.xs.length v:=by
 unfold isName at hx
 split at hx
 ·rename_i a i g;rw [Bool.and_eq_true,Bool.and_eq_true] at hx;obtain ⟨e1,e2,e3⟩:=hx;have e1:=Nat.eq_of_beq_eq_true e1;have e2:=Nat.eq_of_beq_eq_true e2;have e3:=Nat.eq_of_beq_eq_true e3;subst e1 e2 e3;exact ⟨hr.1,K8 (hr.2.2 A hA)⟩
 ·rename_i a i g;rw [Bool.and_eq_true,Bool.and_eq_true] at hx;obtain ⟨e1,e2,e3⟩:=hx;have e1:=Nat.eq_of_beq_eq_true e1;have e2:=Nat.eq_of_beq_eq_true e2;have e3:=Nat.eq_of_beq_eq_true e3;subst e1 e2 e3;exact ⟨hr.1,hr.2.2 A hA⟩
 ·cases hx
theorem Of {w0:World} {mu:Mu} {c1 c2:Cz} {vQ fB:St} {a:Act} {w:World} (h1:Rel w0 mu c1 vQ a w) (h2:Rel w0 mu c2 fB a w) {p:Nat×Nat×Nat} (fk:HG vQ fB p=true) :
  ∃m,nameOf fB p.2.1 p.2.2=some m∧iI c2 fB w (.Mv m.1 m.2.1 m.2.2) (a.eval (.tmp p.1)):=by
 unfold HG at fk
 cases hn:nameOf vQ p.2.1 p.2.2 with
 |none=>rw [hn] at fk;cases fk
 |some n=>
  cases hm:nameOf fB p.2.1 p.2.2 with
  |none=>rw [hn,hm] at fk;cases fk
  |some m=>
   rw [hn,hm] at fk;simp only [Bool.and_eq_true] at fk;obtain ⟨o1,o2,o3⟩:=fk;obtain ⟨A,hA⟩:=Option.isSome_iff_exists.1 o1;obtain ⟨B,hB⟩:=Option.isSome_iff_exists.1 o2;obtain ⟨mK,vs,ty,u,e1,e2,e3,e4⟩:=Jx h1 hn;obtain ⟨aok,vs',ty',u',f1,f2,f3,f4⟩:=Jx h2 hm;rw [e1] at f1;injection f1 with f1;injection f1 with f1;injection f1 with f1;subst f1;rw [e2] at f2;injection f2 with f2;injection f2 with f2 f2';subst f2;rw [e3] at f3;injection f3 with f3;subst f3;obtain ⟨t1,at1,kt,ht,t2⟩:=K9 o3 (h1.dO p.1) hA;refine ⟨m,rfl,t1,f4.2.1,fun B' Ds => ?_⟩;rw [hB] at Ds;obtain rfl:=Option.some.inj Ds;obtain ⟨au,ku,rfl,u1⟩:=K8 (e4.2.2 A hA);obtain ⟨au',ku',g1,u2⟩:=K8 (f4.2.2 B hB);injection g1 with g1 g2 g3;subst g1;have g2:A.xs.length=B.xs.length:=g2;refine ⟨at1,kt,by rw [ht,g2],fun eQ => ?_⟩;obtain ⟨b,off,cap,z1,z2⟩:=u1 (by show A.xs.length≠0;omega);obtain ⟨b',Ny,DM,y1,y2⟩:=u2 (by show B.xs.length≠0;omega);obtain ⟨b2,aom,aon,x1,x2⟩:=t2 (by omega);rw [z1] at x1;injection x1 with x1 x3 x4;subst x1 x3;exact ⟨b',Ny,DM,y1,by rw [x2,←z2,y2]⟩
theorem Tm {w0:World} {mu:Mu} {c:Cz} {st:St} {a:Act} {w:World} (h:Rel w0 mu c st a w) {t:Nat} {v:V} (hv:eD c st w v (a.eval (.tmp t))):Rel w0 mu c (aZ st (some t) v) a w where
 dO s:=by
  have hg:=Fw.aZ c st w (some t) v;rw [F3]
  by_cases hs:some t=some s∧s<st.length
  ·rw [if_pos hs];have:t=s:=Option.some.inj hs.1;subst this;exact hg.j6 hv
  ·rw [if_neg hs];exact hg.j6 (h.dO s)
 boxes s sl cs hs hb:=by
  obtain ⟨f,hf,hn⟩:=nj st (some t) v s;rw [hn] at hs
  cases hx:nth st s with
  |none=>rw [hx] at hs;simp at hs
  |some s0=>
   rw [hx] at hs;simp at hs;subst hs;rw [(hf s0).1] at hb;exact (h.boxes s s0 cs hx hb).go (Fw.aZ c st w (some t) v) rfl rfl rfl
 aN s j sl A hs hb:=by
  obtain ⟨f,hf,hn⟩:=nj st (some t) v s;rw [hn] at hs
  cases hx:nth st s with
  |none=>rw [hx] at hs;simp at hs
  |some s0=>
   rw [hx] at hs;simp at hs;subst hs;rw [(hf s0).2.2.1] at hb;exact h.aN s j s0 A hx hb
 owned:=h.owned
 free:=h.free
 kept:=h.kept
 old:=h.old
 cR p hp:=(Fw.aZ c st w (some t) v).cR (h.cR p hp)
 lS:=h.lS
 plain:=h.plain
theorem En {w0:World} {mu:Mu} {c:Cz} {a:Act} {w:World} {fB:St}:(al:List (Nat×Nat×Nat))→(st:St)→Rel w0 mu c st a w→(∀p∈al,∃m,nameOf fB p.2.1 p.2.2=some m∧iI c st w (.Mv m.1 m.2.1 m.2.2) (a.eval (.tmp p.1)))→Rel w0 mu c (Dw fB al st) a w
 | [],_,h,_=>h
 |p::al,st,h,hp=>by
  obtain ⟨m,hm,hr⟩:=hp p List.mem_cons_self;unfold Dw;rw [hm];exact En al _ (Tm h (v:=.one (.Mv m.1 m.2.1 m.2.2)) hr) fun q hq=>by
   obtain ⟨m',zW,VY⟩:=hp q (List.mem_cons_of_mem _ hq);exact ⟨m',zW,(Fw.aZ c st w (some p.1) (.one (.Mv m.1 m.2.1 m.2.2))).NA VY⟩
theorem MX {w0:World} {mu:Mu} {c:Cz} {st:St} {a:Act} {w:World} (h:Rel w0 mu c st a w) {ps:List AP} (hs:lF ps mu) {al:List (Nat×Nat×Nat)} {hp:List (Option AP)} (pC:gv ps hp=true) {x:aw (aK hp)} (hx:K7 al st hp=some x):∃c',Rel w0 mu c' (sL al hp x) a w:=by
 obtain ⟨x',py,Aj⟩:=Option.bind_eq_some_iff.1 hx;obtain ⟨pF,Aj⟩:=aI Aj;injection Aj with Aj;subst Aj;obtain ⟨c1,h1,_⟩:=AD (yV st 0 hp) h;obtain ⟨c',h2⟩:=Q8 h1 hs pC py;exact ⟨c',En al _ h2 fun p mA=>Of h1 h2 (List.all_eq_true.1 pF p mA)⟩
def BP (al:List (Nat×Nat×Nat)) (id:Nat) (hp e0 e1:List (Option AP)):Ex→St→Option (Sum (aw (aK hp)) (Sum (aw (aK e0)) (aw (aK e1))))
 |.normal,st=>(K7 al st hp).map .inl
 |.exit m,st=>bif Nat.beq m id then (MV st e0).map fun y=>.inr (.inl y) else none
 |.ret,st=>(MV st e1).map fun y=>.inr (.inr y)
noncomputable def BQ {R:Type} (al:List (Nat×Nat×Nat)) (hp e0 e1:List (Option AP)) (round:aw (aK hp)→Option (Sum (aw (aK hp)) (Sum (aw (aK e0)) (aw (aK e1))))) (st:St) (k:Ex→St→Option R):Option R:=
 (K7 al st hp).bind fun x=>(aG round x).bind fun z=>match z with
  |.inl y=>k .normal (wU e0 y)
  |.inr y=>k .ret (wU e1 y)
theorem Tn {R:Type} {al:List (Nat×Nat×Nat)} {P:Program} {T:kK} {S:kV} {D:mJ} {n id:Nat} {w0:World} {mu:Mu} {ps:List AP} {hp e0 e1:List (Option AP)} {b:Code} {r:R} {L:qk R} {U4:Nat→Array Oper→Prop}
  {L':qk (Sum (aw (aK hp)) (Sum (aw (aK e0)) (aw (aK e1))))} {round:aw (aK hp)→Option (Sum (aw (aK hp)) (Sum (aw (aK e0)) (aw (aK e1))))}
  (Iz:uE P T S w0 mu n) (hD:tH (Sum (aw (aK hp)) (Sum (aw (aK e0)) (aw (aK e1)))) P T S D w0 mu n U4) (hs:lF ps mu) (hf:(gv ps hp&&(gv ps e0&&gv ps e1))=true) (sv:jm n b=true) (hD2:fI U4 b)
  (Dh:∀z,fp (oa P w0 mu n L' z) b) (La:∀x,fj T S D L' b (sL al hp x) (BP al id hp e0 e1)=round x) (hL:∀st k,L id b st k=BQ al hp e0 e1 round st k):oa P w0 mu n L r id b:=by
 intro k Q hk c st a w h hn hv;rw [Bool.and_eq_true,Bool.and_eq_true] at hf;rw [hL] at hv;unfold BQ at hv;obtain ⟨x,hx,hv⟩:=Option.bind_eq_some_iff.1 hv;obtain ⟨z,hz,hv⟩:=Option.bind_eq_some_iff.1 hv;obtain ⟨c1,h1⟩:=MX h hs hf.1 hx;obtain ⟨m,hm⟩:=uI hz;refine wp_block ?_;refine wp_loop_ghost (fun m a w=>∃x c,Rel w0 mu c (sL al hp x) a w∧a.tmps.size=n∧iter round m x=some z) m ⟨x,c1,h1,hn,hm⟩ ?_
 rintro m a w ⟨x,c,hR,hn,hi⟩
 cases m with
 |zero=>cases hi
 |succ m=>
  unfold iter at hi
  cases hr:round x with
  |none=>rw [hr] at hi;cases hi
  |some y=>
   rw [hr] at hi;refine I7 Iz hD b sv (Dh y) hD2 (fun {e} {c2} {fB} {a2} {w2} g1 g2 g3 => ?_) hR hn ((La x).trans hr)
   cases e with
   |normal=>
    obtain ⟨x2,q1,rfl⟩:=Option.map_eq_some_iff.1 g3;obtain ⟨c3,g4⟩:=MX g1 hs hf.1 q1;exact ⟨m,Nat.lt_succ_self m,x2,c3,g4,g2,hi⟩
   |exit m'=>
    obtain ⟨yw,g5⟩:=aI g3;have yw:=Nat.eq_of_beq_eq_true yw;subst yw;obtain ⟨x2,q1,rfl⟩:=Option.map_eq_some_iff.1 g5;injection hi with hi;subst hi;obtain ⟨c3,g4⟩:=MW g1 hs hf.2.1 q1;show (if m'=m' then Q .normal a2 w2 else Q (.exit m') a2 w2);rw [if_pos rfl];exact hk g4 g2 hv
   |ret=>
    obtain ⟨x2,q1,rfl⟩:=Option.map_eq_some_iff.1 g3;injection hi with hi;subst hi;obtain ⟨c3,g4⟩:=MW g1 hs hf.2.2 q1;exact hk g4 g2 hv
end Go.TM
namespace Go.TM
open Go Go.RowKit
section
variable {P:Program} {ops:Array Oper} {Q:Exit→Act→World→Prop} {md:Region.Mode} {ds:List Nat}
def tg (md:Region.Mode) (ops:Array Oper) (i:Nat):Nat→Nat→Bool
 |0,_=>false
 |fuel+1,d=>match ops[d]? with
  |some o=>o.after.any fun e=>Region.binds md e&&(e.on==i||tg md ops i fuel e.on)
  |none=>false
def th (md:Region.Mode) (ops:Array Oper) (aV:Array Bool):Prop:=
 ∀j oj,ops[j]?=some oj→aV.getD j false=true→∀e∈oj.after,Region.binds md e=true→aV.getD e.on false=true
theorem th.set {aV:Array Bool} {i:Nat} (h:th md ops aV) (hi:i∈Region.ready md ops aV):th md ops (aV.setIfInBounds i true):=by
 obtain ⟨_,oi,MY,pF⟩:=mem_ready.1 hi;intro j oj hj hl e he hb
 by_cases hij:i=j
 ·subst hij;have:oj=oi:=Option.some.inj (hj.symm.trans MY);subst this;exact getD_set_true (pF e he hb)
 ·rw [getD_set_ne false hij] at hl;exact getD_set_true (h j oj hj hl e he hb)
theorem th.none (md:Region.Mode) (ops:Array Oper) (n:Nat):th md ops (Array.replicate n false):=by
 intro j oj _ hl;simp [Array.getD_eq_getD_getElem?,Array.getElem?_replicate] at hl
 split at hl<;>simp at hl
theorem AJ {aV:Array Bool} {i:Nat} (hc:th md ops aV):∀(fuel d:Nat),tg md ops i fuel d=true→aV.getD d false=true→aV.getD i false=true
 |0,_,h,_=>by simp [tg] at h
 |fuel+1,d,h,hl=>by
  unfold tg at h
  cases ho:ops[d]? with
  |none=>rw [ho] at h;simp at h
  |some o=>
   rw [ho] at h;obtain ⟨e,he,h1⟩:=Array.any_eq_true'.1 h;simp only [Bool.and_eq_true,Bool.or_eq_true,beq_iff_eq] at h1;have hle:=hc d o ho hl e he h1.1;rcases h1.2 with h2 | h2
   ·rw [←h2];exact hle
   ·exact AJ hc fuel e.on h2 hle
theorem Dj {aV:Array Bool} {i d fuel:Nat} (hc:th md ops aV) (hr:tg md ops i fuel d=true) (IA:aV.getD i true=false):d∉Region.ready md ops aV:=by
 intro hd;obtain ⟨_,o,ho,pF⟩:=mem_ready.1 hd;have hi:aV.getD i false=true:=by
  cases fuel with
  |zero=>simp [tg] at hr
  |succ n=>
   unfold tg at hr;rw [ho] at hr;obtain ⟨e,he,h1⟩:=Array.any_eq_true'.1 hr;simp only [Bool.and_eq_true,Bool.or_eq_true,beq_iff_eq] at h1;have hle:=pF e he h1.1;rcases h1.2 with h2 | h2
   ·rw [←h2];exact hle
   ·exact AJ hc n e.on h2 hle
 rcases Nat.lt_or_ge i aV.size with h' | h'
 ·simp [h'] at IA hi;rw [IA] at hi
  cases hi
 ·simp [Array.getElem?_eq_none h'] at IA
def og (P:Program) (md:Region.Mode) (ops:Array Oper) (Q:Exit→Act→World→Prop) (ds:List Nat):Nat→Array Bool→Act→World→Prop
 |0,aV,a,w=>Region.ready md ops aV=[]∧Q .normal a w
 |fuel+1,aV,a,w=>
  (Region.ready md ops aV=[]→Q .normal a w)∧
  ∀i∈Region.ready md ops aV,wpOp P ops Q i (fun a' w'=>(i∉ds→im w w')∧og P md ops Q ds fuel (aV.setIfInBounds i true) a' w') a w
theorem yx:∀(fuel:Nat) (aV:Array Bool) (a:Act) (w:World),og P md ops Q ds fuel aV a w→wpAny P md ops Q fuel aV a w
 |0,_,_,_,h=>h
 |fuel+1,_,_,_,h=>⟨h.1,fun i hi=>wpOp_mono (fun a' w' h'=>yx fuel _ a' w' h'.2) (h.2 i hi)⟩
theorem HH {i:Nat} {oi:Oper} {v:Value} {w0:World} (hi:ops[i]?=some oi) (Jy:∀(j:Nat) (o:Oper) cs b,ops[j]?=some o→o.op≠.select cs b)
  (hQ:∀c a w,Q (.panic c) (a.put oi.dst v) w→Q (.panic c) a w) (n:Nat) :
  ∀(fuel:Nat) (aV:Array Bool) (a:Act) (w:World),
   (∀j oj,ops[j]?=some oj→j≠i→aV.getD j true=false→(∀e∈oj.after,Region.binds md e=true→e.on≠i)→oi.apart ops oj=true)→
   th md ops aV→(∀d∈ds,aV.getD d true=false→tg md ops i n d=true)→
   i∈Region.ready md ops aV→YieldsIf P ops (im w0) oi v a→im w0 w→
   og P md ops Q ds fuel (aV.setIfInBounds i true) (a.put oi.dst v) w→og P md ops Q ds (fuel+1) aV a w:=by
 intro fuel
 induction fuel with
 |zero=>
  intro aV a w _ _ _ hr hy hS H;refine ⟨fun h=>(by rw [h] at hr;cases hr),fun j hj => ?_⟩
  by_cases HI:j=i
  ·subst HI;exact hy.wpOp hi hS ⟨fun _=>im.refl w,H⟩
  ·have:=ready_mono hj HI;rw [H.1] at this
   cases this
 |succ fuel ih=>
  intro aV a w D2 hc hd hr hy hS H;refine ⟨fun h=>(by rw [h] at hr;cases hr),fun j hj => ?_⟩
  by_cases HI:j=i
  ·subst HI;exact hy.wpOp hi hS ⟨fun _=>im.refl w,H⟩
  ·have h1:=H.2 j (ready_mono hj HI);obtain ⟨Lc,oj,Wv,pF⟩:=mem_ready.1 hj;have Og:=(mem_ready.1 hr).1;have Oc:∀e∈oj.after,Region.binds md e=true→e.on≠i:=fun e he hb heq=>by
    have h1:=pF e he hb;rw [heq] at h1;rcases Nat.lt_or_ge i aV.size with h' | h'
    ·simp [h'] at Og h1;rw [Og] at h1;cases h1
    ·simp [Array.getElem?_eq_none h'] at h1
   have hjd:j∉ds:=fun hm=>Dj hc (hd j hm Lc) Og hj
   have h2:=wpOp_putIf Wv (D2 j oj Wv HI Lc Oc) (fun cs b=>Jy i oi cs b hi) (fun cs b=>Jy j oj cs b Wv) hQ hy h1;have Ld:∀k ok,ops[k]?=some ok→k≠i→(aV.setIfInBounds j true).getD k true=false→
     (∀e∈ok.after,Region.binds md e=true→e.on≠i)→oi.apart ops ok=true:=fun k ok hk hki IA S4=>by
    refine D2 k ok hk hki ?_ S4
    by_cases x8:j=k
    ·subst x8;exact Lc
    ·rw [getD_set_ne true x8] at IA;exact IA
   have K4:∀d∈ds,(aV.setIfInBounds j true).getD d true=false→tg md ops i n d=true:=fun d hm IA=>by
    refine hd d hm ?_
    by_cases x8:j=d
    ·subst x8;exact Lc
    ·rw [getD_set_ne true x8] at IA;exact IA
   refine wpOp_mono (fun a' w' h3=>⟨h3.2.1,ih (aV.setIfInBounds j true) a' w' Ld (hc.set hj) K4 (ready_mono hr (Ne.symm HI)) h3.1 (hS.trans (h3.2.1 hjd)) ?_⟩) h2;rw [Array.setIfInBounds_comm _ _ HI];exact h3.2.2
theorem Le {i:Nat} {oi:Oper} {v:Value} (hi:ops[i]?=some oi) (Jy:∀(j:Nat) (o:Oper) cs b,ops[j]?=some o→o.op≠.select cs b)
  (hQ:∀c a w,Q (.panic c) (a.put oi.dst v) w→Q (.panic c) a w) :
  ∀(fuel:Nat) (aV:Array Bool) (a:Act) (w:World),
   (∀j oj,ops[j]?=some oj→j≠i→aV.getD j true=false→(∀e∈oj.after,Region.binds md e=true→e.on≠i)→oi.apart ops oj=true)→
   i∈Region.ready md ops aV→Yields P ops oi v a→
   og P md ops Q ds fuel (aV.setIfInBounds i true) (a.put oi.dst v) w→og P md ops Q ds (fuel+1) aV a w:=by
 intro fuel
 induction fuel with
 |zero=>
  intro aV a w _ hr hy H;refine ⟨fun h=>(by rw [h] at hr;cases hr),fun j hj => ?_⟩
  by_cases HI:j=i
  ·subst HI;exact (hy.yieldsIf (S:=fun _=>True)).wpOp hi trivial ⟨fun _=>im.refl w,H⟩
  ·have:=ready_mono hj HI;rw [H.1] at this
   cases this
 |succ fuel ih=>
  intro aV a w D2 hr hy H;refine ⟨fun h=>(by rw [h] at hr;cases hr),fun j hj => ?_⟩
  by_cases HI:j=i
  ·subst HI;exact (hy.yieldsIf (S:=fun _=>True)).wpOp hi trivial ⟨fun _=>im.refl w,H⟩
  ·have h1:=H.2 j (ready_mono hj HI);obtain ⟨Lc,oj,Wv,pF⟩:=mem_ready.1 hj;have Og:=(mem_ready.1 hr).1;have Oc:∀e∈oj.after,Region.binds md e=true→e.on≠i:=fun e he hb heq=>by
    have h1:=pF e he hb;rw [heq] at h1;rcases Nat.lt_or_ge i aV.size with h' | h'
    ·simp [h'] at Og h1;rw [Og] at h1;cases h1
    ·simp [Array.getElem?_eq_none h'] at h1
   have h2:=wpOp_put Wv (D2 j oj Wv HI Lc Oc) (fun cs b=>Jy i oi cs b hi) (fun cs b=>Jy j oj cs b Wv) hQ hy h1;have Ld:∀k ok,ops[k]?=some ok→k≠i→(aV.setIfInBounds j true).getD k true=false→
     (∀e∈ok.after,Region.binds md e=true→e.on≠i)→oi.apart ops ok=true:=fun k ok hk hki IA S4=>by
    refine D2 k ok hk hki ?_ S4
    by_cases x8:j=k
    ·subst x8;exact Lc
    ·rw [getD_set_ne true x8] at IA;exact IA
   refine wpOp_mono (fun a' w' h3=>⟨h3.2.1,ih (aV.setIfInBounds j true) a' w' Ld (ready_mono hr (Ne.symm HI)) h3.1 ?_⟩) h2;rw [Array.setIfInBounds_comm _ _ HI];exact h3.2.2
end
end Go.TM
namespace Go.TM
open Go Go.RowKit
def yW (i:Nat):List Nat→Bool
 | []=>false
 |x::l=>Nat.beq x i||yW i l
def Va (ops:List Oper) (ls:List Nat) (j:Nat):Bool:=
 match nth ops j with
 |some o => !yW j ls&&o.after.toList.all fun e => !Region.binds .any e||yW e.on ls
 |none=>false
def MZ (ops:Array Oper) (Jz:List Oper) (n:Nat) (ls:List Nat) (i:Nat):Bool:=
 match nth Jz i with
 |some oi=>(List.range n).all fun j=>Nat.beq j i||(yW j ls||match nth Jz j with
  |some oj=>(oj.after.toList.any fun e=>Region.binds .any e&&Nat.beq e.on i)||oi.apart ops oj
  |none=>true)
 |none=>false
def HJ (Jz:List Oper) (n:Nat) (ls:List Nat) (i:Nat):Bool:=(List.range n).all fun j=>Nat.beq j i || !Va Jz ls j
def Pl.ck:Pl→List Nat
 |.nil=>[]
 |.op i _ _=>[i]
 |.alt p q=>p.ck++q.ck
def Q9 (Jz:List Oper) (n:Nat) (ls hs:List Nat):Bool:=(List.range n).all fun j => !Va Jz ls j||yW j hs
def lf (ops:Array Oper) (Jz:List Oper) (n:Nat) (ds:List Nat):Bool→List Nat→Pl→Bool
 |al,ls,.nil => !al&&(List.range n).all fun j => !Va Jz ls j
 |al,ls,.op i kd r=>Va Jz ls i&&((match kd with
   |.any => !al&&MZ ops Jz n ls i
   |.take => !al&&(MZ ops Jz n ls i&&ds.all fun d=>yW d ls||tg .any ops i n d)
   |.one=>al||HJ Jz n ls i
   |.last=>(al||HJ Jz n ls i)&&yW i ds)&&lf ops Jz n ds false (i::ls) r)
 |al,ls,.alt p q=>(al||Q9 Jz n ls (p.ck++q.ck))&&(lf ops Jz n ds true ls p&&lf ops Jz n ds true ls q)
def GA:Pl→List Nat
 |.nil=>[]
 |.op i .last l=>i::GA l
 |.op _ _ l=>GA l
 |.alt p q=>GA p++GA q
def Pl.depth:Pl→Nat
 |.nil=>0
 |.op _ _ l=>l.depth+1
 |.alt p q=>Nat.max p.depth q.depth
def Eo (ops:Array Oper) (l:Pl):Bool:=
 Region.noSelect ops&&(Nat.ble l.depth ops.size&&lf ops ops.toList ops.size (GA l) false [] l)
structure SK (n:Nat) (ls:List Nat) (aV:Array Bool):Prop where
 size:aV.size=n
 gf:∀j,aV.getD j false=yW j ls
 gt:∀j,aV.getD j true=(yW j ls||decide (n≤j))
theorem SK.push {n:Nat} {ls:List Nat} {aV:Array Bool} (h:SK n ls aV) {i:Nat} (hi:i<n):SK n (i::ls) (aV.setIfInBounds i true) where
 size:=by simp [h.size]
 gf:=fun j=>by
  unfold yW
  by_cases e:i=j
  ·subst e;have:Nat.beq i i=true:=Nat.beq_refl i;rw [this];simp [h.size,hi]
  ·rw [getD_set_ne false e,h.gf j];have:Nat.beq i j=false:=by
    cases hq:Nat.beq i j
    ·rfl
    ·exact absurd (Nat.eq_of_beq_eq_true hq) e
   simp [this]
 gt:=fun j=>by
  unfold yW
  by_cases e:i=j
  ·subst e;simp [h.size,hi]
  ·rw [getD_set_ne true e,h.gt j];have:Nat.beq i j=false:=by
    cases hq:Nat.beq i j
    ·rfl
    ·exact absurd (Nat.eq_of_beq_eq_true hq) e
   simp [this]
theorem SK.none (n:Nat):SK n [] (Array.replicate n false) where
 size:=by simp
 gf:=fun j=>by
  simp only [Array.getD_eq_getD_getElem?,Array.getElem?_replicate,yW]
  split<;>rfl
 gt:=fun j=>by
  simp only [Array.getD_eq_getD_getElem?,Array.getElem?_replicate,yW]
  split
  ·rename_i h;simp;omega
  ·rename_i h;simp;omega
theorem xL {ops:Array Oper} {ls:List Nat} {aV:Array Bool} (h:SK ops.size ls aV) (j:Nat):Va ops.toList ls j=true↔j∈Region.ready .any ops aV:=by
 rw [mem_ready];unfold Va;rw [gd,Array.getElem?_toList,h.gt j]
 cases ho:ops[j]? with
 |none=>simp
 |some o=>
  have bQ:j<ops.size:=(Array.getElem?_eq_some_iff.1 ho).1;have hn:decide (ops.size≤j)=false:=by simp;omega
  simp only [hn,Bool.or_false,Bool.and_eq_true,Bool.not_eq_true',List.all_eq_true,Array.mem_toList_iff,Bool.or_eq_true,Option.some.injEq,exists_eq_left',h.gf]
  constructor
  ·rintro ⟨h0,h1⟩
   exact ⟨h0,fun e he hb=>(h1 e he).resolve_left (by simp [hb])⟩
  ·rintro ⟨h0,h1⟩
   refine ⟨h0,fun e he => ?_⟩
   cases hb:Region.binds .any e
   ·exact .inl rfl
   ·exact .inr (h1 e he hb)
theorem Oh {i j:Nat} (h:i≠j):Nat.beq i j=false:=by
 cases hq:Nat.beq i j
 ·rfl
 ·exact absurd (Nat.eq_of_beq_eq_true hq) h
theorem Ep {ops:Array Oper} {ls:List Nat} {aV:Array Bool} (h:SK ops.size ls aV) {i:Nat} {oi:Oper} (hi:ops[i]?=some oi) (hf:MZ ops ops.toList ops.size ls i=true) :
  ∀j oj,ops[j]?=some oj→j≠i→aV.getD j true=false→(∀e∈oj.after,Region.binds .any e=true→e.on≠i)→oi.apart ops oj=true:=by
 intro j oj hj HI IA S4;unfold MZ at hf;rw [gd,Array.getElem?_toList,hi] at hf;have bQ:j<ops.size:=(Array.getElem?_eq_some_iff.1 hj).1;have h1:=List.all_eq_true.1 hf j (List.mem_range.2 bQ);rw [gd,Array.getElem?_toList,hj,Oh HI,Bool.false_or] at h1;rw [h.gt j,Bool.or_eq_false_iff] at IA;rw [IA.1,Bool.false_or,Bool.or_eq_true] at h1;rcases h1 with h1 | h1
 ·obtain ⟨e,he,h2⟩:=List.any_eq_true.1 h1;rw [Bool.and_eq_true] at h2;exact absurd (Nat.eq_of_beq_eq_true h2.2) (S4 e (Array.mem_toList_iff.1 he) h2.1)
 ·exact h1
theorem JA {ops:Array Oper} {ls:List Nat} {aV:Array Bool} (h:SK ops.size ls aV) {i:Nat} (hf:HJ ops.toList ops.size ls i=true):∀j∈Region.ready .any ops aV,j=i:=by
 intro j hj;have bQ:j<ops.size:=by
  obtain ⟨_,o,ho,_⟩:=mem_ready.1 hj;exact (Array.getElem?_eq_some_iff.1 ho).1
 have h1:=List.all_eq_true.1 hf j (List.mem_range.2 bQ);rw [(xL h j).2 hj,Bool.not_true,Bool.or_false] at h1;exact Nat.eq_of_beq_eq_true h1
theorem AK {P:Program} {T:kK} {S:kV} {w0:World} {mu:Mu} {c:Cz} {st aY:St} {a:Act} {w:World} {ops:Array Oper} {o:Oper} {C:World→Prop} (h:Rel w0 mu c st a w)
  (hd:∀k,o.dst=some k→k<a.tmps.size) (hv:(wB T S ops.toList st o).val=some aY)
  (base:(Ku T S st o).val=some aY→∃v,(∀w':World,C w'→(execOp a.eval o).run P w'=.ok (.value v) w')∧Rel w0 mu c aY (a.put o.dst v) w) :
  ∃v,YieldsIf P ops C o v a∧Rel w0 mu c aY (a.put o.dst v) w:=by
 unfold wB at hv;unfold YieldsIf Region.wanted
 cases hg:o.guard with
 |none=>
  simp only [hg] at hv ⊢;obtain ⟨v,h1,h2⟩:=base hv;exact ⟨v,.inl ⟨trivial,h1⟩,h2⟩
 |some p=>
  obtain ⟨j,want⟩:=p;simp only [hg] at hv ⊢
  cases hj:(nth ops.toList j).bind (·.dst) with
  |none=>simp [hj,N.val] at hv
  |some d=>
   simp only [hj] at hv
   split at hv
   ·rename_i b Qr;obtain ⟨h1,h2⟩:=xF h Qr;rw [D4 (ops:=ops) hj h1 h2];have yes:(Ku T S (TM.aZ st (some d) (.one (.bool b))) o).val=some aY→∃v,(∀w':World,C w'→(execOp a.eval o).run P w'=.ok (.value v) w')∧Rel w0 mu c aY (a.put o.dst v) w:=fun e=>base (by rwa [xG st d Qr] at e)
    have no:(N.done (TM.aZ (TM.aZ st (some d) (.one (.bool b))) o.dst (.m9 []))).val=some aY→Rel w0 mu c aY (a.put o.dst undef) w:=by
     intro e;simp only [N.val,Option.some.injEq] at e;subst e;rw [xG st d Qr];exact h.aZ (xH _ _ _) hd
    rcases tG hv with ⟨hb,yn⟩ | ⟨hb,yn⟩
    ·subst hb
     cases want
     ·exact ⟨undef,.inr ⟨rfl,rfl⟩,no yn⟩
     ·obtain ⟨v,h3,h4⟩:=yes yn;exact ⟨v,.inl ⟨rfl,h3⟩,h4⟩
    ·subst hb
     cases want
     ·obtain ⟨v,h3,h4⟩:=yes yn;exact ⟨v,.inl ⟨rfl,h3⟩,h4⟩
     ·exact ⟨undef,.inr ⟨rfl,rfl⟩,no yn⟩
   ·rename_i Qr;simp only [N.val,Option.some.injEq] at hv;subst hv;rw [yr (ops:=ops) hj (D5 h Qr)];exact ⟨undef,.inr ⟨by cases want<;>rfl,rfl⟩,h.aZ (xH _ _ _) hd⟩
   ·simp [N.val] at hv
theorem To {P:Program} {T:kK} (hT:fG P T) {S:kV} {w0:World} {mu:Mu} {c:Cz} {st:St} {a:Act} {w:World} (h:Rel w0 mu c st a w) {o:Oper} (hk:kindOk S st o .take=true)
  {aY:St} (hv:(Ku T S st o).val=some aY) (hd:∀k,o.dst=some k→k<a.tmps.size):∃v,(∀w':World,im w w'→(execOp a.eval o).run P w'=.ok (.value v) w')∧Rel w0 mu c aY (a.put o.dst v) w:=by
 unfold kindOk at hk;unfold Ku at hv
 cases ho:o.op with
 |load t x=>
  simp only [ho] at hv;obtain ⟨v,h1,h2⟩:=II hT h (bu h x) hv hd;exact ⟨v,fun w' hw=>by simp only [execOp,ho];exact rD (h1 w' hw),h2⟩
 |_=>simp [ho] at hk
theorem AL {i:Nat}:(l:List Nat)→yW i l=true→i∈l
 | [],h=>by cases h
 |x::l,h=>by
  unfold yW at h;rw [Bool.or_eq_true] at h;rcases h with h | h
  ·rw [Nat.eq_of_beq_eq_true h];exact List.mem_cons_self
  ·exact List.mem_cons_of_mem _ (AL l h)
theorem wW {R:Type} {P:Program} {T:kK} (hT:fG P T) (hE:yQ P T) {S:kV} {w0:World} {mu:Mu} {n:Nat} (Iz:uE P T S w0 mu n) {ops:Array Oper} {ds:List Nat} {Q:Exit→Act→World→Prop} (hQ:∀c a w,¬Q (.panic c) a w)
  {k:St→Option R} {r:R} (hk:Next w0 mu n r k (Q .normal)) (SJ:Region.noSelect ops=true) (sv:yR n ops.toList=true) :
  (l:Pl)→(ls:List Nat)→(aV:Array Bool)→(fuel:Nat)→{c:Cz}→{st:St}→{a:Act}→{w:World}→SK ops.size ls aV→th .any ops aV→l.depth≤fuel→
   Rel w0 mu c st a w→a.tmps.size=n→pB T S ops.toList l st k=some r→
   (lf ops ops.toList ops.size ds false ls l=true→og P .any ops Q ds fuel aV a w)∧
   (lf ops ops.toList ops.size ds true ls l=true→∃JB,fuel=JB+1∧∀i∈l.ck,i∈Region.ready .any ops aV∧wpOp P ops Q i (fun a' w'=>(i∉ds→im w w')∧og P .any ops Q ds JB (aV.setIfInBounds i true) a' w') a w)
 |.nil,ls,aV,fuel,c,st,a,w,hl,_,_,h,hn,hv=>by
  refine ⟨fun hb => ?_,fun hb=>by simp [lf] at hb⟩;unfold lf at hb;rw [Bool.and_eq_true] at hb;have hr:Region.ready .any ops aV=[]:=by
   refine List.eq_nil_iff_forall_not_mem.2 fun j hj => ?_
   obtain ⟨_,o,ho,_⟩:=mem_ready.1 hj;have bQ:j<ops.size:=(Array.getElem?_eq_some_iff.1 ho).1;have h1:=List.all_eq_true.1 hb.2 j (List.mem_range.2 bQ);rw [(xL hl j).2 hj] at h1
   cases h1
  have hq:=hk h hn hv
  cases fuel with
  |zero=>exact ⟨hr,hq⟩
  |succ fuel=>exact ⟨fun _=>hq,fun i hi=>by rw [hr] at hi;cases hi⟩
 |.op i kd l,ls,aV,0,c,st,a,w,hl,_,hf,h,hn,hv=>absurd hf (by simp [Pl.depth])
 |.op i kd l,ls,aV,fuel+1,c,st,a,w,hl,hs,hf,h,hn,hv=>by
  have hf:l.depth≤fuel:=Nat.le_of_succ_le_succ hf;have first:∀al,lf ops ops.toList ops.size ds al ls (.op i kd l)=true→Va ops.toList ls i=true∧lf ops ops.toList ops.size ds false (i::ls) l=true:=by
   intro al hb;unfold lf at hb;rw [Bool.and_eq_true,Bool.and_eq_true] at hb;exact ⟨hb.1,hb.2.2⟩
  have step:Va ops.toList ls i=true→lf ops ops.toList ops.size ds false (i::ls) l=true→(kd=.one∨i∈ds)→wpOp P ops Q i (fun a' w'=>(i∉ds→im w w')∧og P .any ops Q ds fuel (aV.setIfInBounds i true) a' w') a w:=by
   intro SH fC hds;have Vb:=(xL hl i).1 SH;obtain ⟨_,o,MY,_⟩:=mem_ready.1 Vb;have bQ:i<ops.size:=(Array.getElem?_eq_some_iff.1 MY).1;unfold pB at hv;rw [gd,Array.getElem?_toList,MY] at hv;obtain ⟨SL,hv⟩:=aI hv;rw [N.fold_eq] at hv;obtain ⟨aY,h1,h2⟩:=Option.bind_eq_some_iff.1 hv;have K4:∀k,o.dst=some k→k<a.tmps.size:=fun k hk=>by rw [hn];exact BF sv (by rw [Array.mem_toList_iff];exact Array.mem_of_getElem? MY) k hk
   have next:∀ {c':Cz} {a':Act} {w':World},Rel w0 mu c' aY a' w'→a'.tmps.size=n→og P .any ops Q ds fuel (aV.setIfInBounds i true) a' w':=fun hr NI=>
    (wW hT hE Iz hQ hk SJ sv l (i::ls) _ fuel (hl.push bQ) (hs.set Vb) hf hr NI h2).1 fC
   have hko:kd=.one→kindOk S st o .one=true:=fun e=>by rw [e] at SL;exact SL
   unfold wpOp;rw [MY];rcases I6 Iz h hn (fun k hk=>by rw [←hn];exact K4 k hk) h1 with ⟨hw,pz⟩ | ⟨hw,wO⟩
   ·simp only [hw,if_true];refine .inl (Oper.wp_mono (fun a' w' ⟨⟨c',hr,jJ⟩,Te⟩=>⟨fun Hv => ?_,next hr (jJ.trans hn)⟩) (pz Q));rcases hds with e | e
    ·exact Te (hko e)
    ·exact absurd e Hv
   ·simp only [hw,Bool.false_eq_true,if_false];exact ⟨fun _=>im.refl w,next wO ((rB _ _ _).trans hn)⟩
  refine ⟨fun hb => ?_,fun hb=>⟨fuel,rfl,fun j hj => ?_⟩⟩
  ·obtain ⟨SH,fC⟩:=first _ hb;have Vb:=(xL hl i).1 SH;unfold lf at hb;rw [Bool.and_eq_true,Bool.and_eq_true] at hb;obtain ⟨_,M0,_⟩:=hb;have alone:HJ ops.toList ops.size ls i=true→(kd=.one∨i∈ds)→og P .any ops Q ds (fuel+1) aV a w:=by
    intro hal hds;refine ⟨fun e=>absurd Vb (by rw [e];exact List.not_mem_nil),fun j hj => ?_⟩;have:=JA hl hal j hj;subst this;exact step SH fC hds
   obtain ⟨_,o,MY,_⟩:=mem_ready.1 Vb;have bQ:i<ops.size:=(Array.getElem?_eq_some_iff.1 MY).1;unfold pB at hv;rw [gd,Array.getElem?_toList,MY] at hv;obtain ⟨SL,hv⟩:=aI hv;rw [N.fold_eq] at hv;obtain ⟨aY,h1,h2⟩:=Option.bind_eq_some_iff.1 hv;have K4:∀k,o.dst=some k→k<a.tmps.size:=fun k hk=>by rw [hn];exact BF sv (by rw [Array.mem_toList_iff];exact Array.mem_of_getElem? MY) k hk
   have next:∀ {c':Cz} {a':Act} {w':World},Rel w0 mu c' aY a' w'→a'.tmps.size=n→og P .any ops Q ds fuel (aV.setIfInBounds i true) a' w':=fun hr NI=>
    (wW hT hE Iz hQ hk SJ sv l (i::ls) _ fuel (hl.push bQ) (hs.set Vb) hf hr NI h2).1 fC
   have Jy:=Region.noSelect_spec SJ
   cases kd with
   |one=>exact alone (by simpa using M0) (.inl rfl)
   |last=>
    simp only [Bool.false_or,Bool.and_eq_true] at M0;exact alone M0.1 (.inr (AL ds M0.2))
   |any=>
    simp only [Bool.not_false,Bool.true_and] at M0;obtain ⟨v,hy,wO⟩:=AK (P:=P) (ops:=ops) (C:=fun _=>True) h K4 h1 (fun e=>by
     obtain ⟨v,g1,g2⟩:=MI hT hE h SL e K4;exact ⟨v,fun w' _=>g1 w',g2⟩)
    refine Le MY Jy (fun c a w hq=>absurd hq (hQ _ _ _)) fuel aV a w (Ep hl MY M0) Vb ?_ (next wO ((rB _ _ _).trans hn));rcases hy with ⟨g1,g2⟩ | g
    ·exact .inl ⟨g1,fun w'=>g2 w' trivial⟩
    ·exact .inr g
   |take=>
    simp only [Bool.not_false,Bool.true_and,Bool.and_eq_true] at M0;obtain ⟨v,hy,wO⟩:=AK (P:=P) (ops:=ops) (C:=im w) h K4 h1 (fun e=>To hT h SL e K4);refine HH MY Jy (fun c a w hq=>absurd hq (hQ _ _ _)) ops.size fuel aV a w (Ep hl MY M0.1) hs (fun d hm IA => ?_) Vb hy (im.refl w) (next wO ((rB _ _ _).trans hn));have h3:=List.all_eq_true.1 M0.2 d hm;rw [hl.gt d,Bool.or_eq_false_iff] at IA;rw [IA.1,Bool.false_or] at h3;exact h3
  ·have hj:j=i:=by simpa [Pl.ck] using hj
   subst hj;obtain ⟨SH,fC⟩:=first _ hb;refine ⟨(xL hl j).1 SH,step SH fC ?_⟩;unfold lf at hb;rw [Bool.and_eq_true,Bool.and_eq_true] at hb;obtain ⟨_,M0,_⟩:=hb
   cases kd with
   |one=>exact .inl rfl
   |last=>
    simp only [Bool.true_or,Bool.true_and] at M0;exact .inr (AL ds M0)
   |any=>simp at M0
   |take=>simp at M0
 |.alt p q,ls,aV,fuel,c,st,a,w,hl,hs,hf,h,hn,hv=>by
  have hv:both (pB T S ops.toList p st k) (pB T S ops.toList q st k)=some r:=hv;obtain ⟨yn,K0⟩:=Nw hv;have hf:Nat.max p.depth q.depth≤fuel:=hf;have hp:=(wW (ds:=ds) hT hE Iz hQ hk SJ sv p ls aV fuel hl hs (Nat.le_trans (Nat.le_max_left _ _) hf) h hn yn).2;have hq:=(wW (ds:=ds) hT hE Iz hQ hk SJ sv q ls aV fuel hl hs (Nat.le_trans (Nat.le_max_right _ _) hf) h hn K0).2;have ck:lf ops ops.toList ops.size ds true ls p=true→lf ops ops.toList ops.size ds true ls q=true→∃JB,fuel=JB+1∧∀i∈p.ck++q.ck,i∈Region.ready .any ops aV∧wpOp P ops Q i (fun a' w'=>(i∉ds→im w w')∧og P .any ops Q ds JB (aV.setIfInBounds i true) a' w') a w:=by
   intro h1 h2;obtain ⟨f1,e1,g1⟩:=hp h1;obtain ⟨f2,e2,g2⟩:=hq h2;have:f1=f2:=by omega
   subst this;exact ⟨f1,e1,fun i hi=>(List.mem_append.1 hi).elim (g1 i) (g2 i)⟩
  have parts:∀al,lf ops ops.toList ops.size ds al ls (.alt p q)=true→(al||Q9 ops.toList ops.size ls (p.ck++q.ck))=true∧lf ops ops.toList ops.size ds true ls p=true∧lf ops ops.toList ops.size ds true ls q=true:=by
   intro al hb;unfold lf at hb;rw [Bool.and_eq_true,Bool.and_eq_true] at hb;exact hb
  refine ⟨fun hb => ?_,fun hb => ?_⟩
  ·obtain ⟨hc,h1,h2⟩:=parts _ hb;obtain ⟨f,rfl,g⟩:=ck h1 h2;have ahv:∀j∈Region.ready .any ops aV,j∈p.ck++q.ck:=by
    intro j hj;have bQ:j<ops.size:=by
     obtain ⟨_,o,ho,_⟩:=mem_ready.1 hj;exact (Array.getElem?_eq_some_iff.1 ho).1
    rw [Bool.false_or] at hc;have h1:=List.all_eq_true.1 hc j (List.mem_range.2 bQ);rw [(xL hl j).2 hj,Bool.not_true,Bool.false_or] at h1;exact AL _ h1
   refine ⟨fun e => ?_,fun j hj=>(g j (ahv j hj)).2⟩;have eQ:∃i,i∈p.ck++q.ck:=by
    have key:∀(l:Pl),lf ops ops.toList ops.size ds true ls l=true→∃i,i∈l.ck:=by
     intro l
     induction l with
     |nil=>intro h;simp [lf] at h
     |op i _ _ _=>intro _;exact ⟨i,by simp [Pl.ck]⟩
     |alt p q ih _=>
      intro h;unfold lf at h;rw [Bool.and_eq_true,Bool.and_eq_true] at h;obtain ⟨i,hi⟩:=ih h.2.1;exact ⟨i,List.mem_append_left _ hi⟩
    obtain ⟨i,hi⟩:=key p h1;exact ⟨i,List.mem_append_left _ hi⟩
   obtain ⟨i,hi⟩:=eQ;have:=(g i hi).1;rw [e] at this
   cases this
  ·obtain ⟨_,h1,h2⟩:=parts _ hb;exact ck h1 h2
theorem BR {R:Type} {P:Program} {T:kK} (hT:fG P T) (hE:yQ P T) (hm:P.follows .mixedOrders=true) {S:kV} {D:mJ} {w0:World} {mu:Mu} {n:Nat} (Iz:uE P T S w0 mu n) :
  tH R P T S D w0 mu n (fun id ops=>Eo ops (D id)=true):=by
 intro id ops Q k r fk sv hk c st a w h hn hv;unfold Eo at fk;rw [Bool.and_eq_true,Bool.and_eq_true] at fk;obtain ⟨SJ,hlen,hb⟩:=fk
 let Q':Exit→Act→World→Prop:=fun e a w=>e=.normal∧Q .normal a w
 have key:(Code.region id ops true).wp P Q' a w:=by
  refine wp_region_any hm (yx _ _ _ _ ((wW hT hE Iz (ds:=GA (D id)) (Q:=Q') (fun c a w hq=>by cases hq.1) (fun {c st a w} g1 g2 g3=>⟨rfl,hk g1 g2 g3⟩) SJ sv (D id) [] _ ops.size (SK.none _) (th.none _ _ _) (Nat.le_of_ble_eq_true hlen) h.drew hn hv).1 hb))
 exact Code.wp_mono (fun e a w hq=>by obtain ⟨rfl,hq⟩:=hq;exact hq) key
end Go.TM
namespace Go.TM
open Go Go.RowKit
abbrev Vc:RT→Type→Type
 |.nil,R=>R
 |.cons t r,R=>den t→Vc r R
abbrev IB {R:Type}:(r:RT)→Vc r R→aw r→R
 |.nil,f,_=>f
 |.cons _ r,f,x=>IB r (f x.1) x.2
def iM:mJ:=fun _=>.nil
def noL {R:Type}:qk R:=fun _ _ _ _=>none
def Ra (f:Func):Code:=match f.body with | some c=>c | none=>.skip
def nn:Nat→List (Option AP)
 |0=>[]
 |n+1=>none::nn n
structure Rec where
 size:Nat
 agg:Bool
 ca:List (Nat×Nat)
 row:Option RT
 elem:Option (RT×Nat)
 kind:Option Ty
 kG:List Nat
 eq:Bool
 dp:Bool:=false
 cap:Bool:=false
 lz:List Nat:=[]
inductive Tr where
 |leaf
 |node (l:Tr) (k:Nat) (v:Rec) (r:Tr)
def Tr.flat:Tr→Tr
 |.leaf=>.leaf
 |.node l k v r=>.node l.flat k { v with dp:=false } r.flat
def Tr.wA (l:List Nat):Tr→Tr
 |.leaf=>.leaf
 |.node a k v b=>.node (a.wA l) k { v with cap:=l.any (Nat.beq k) } (b.wA l)
def Tr.find:Tr→Nat→Option Rec
 |.leaf,_=>none
 |.node l k v r,t=>bif Nat.beq t k then some v else bif Nat.blt t k then l.find t else r.find t
def Tr.all (p:Nat→Rec→Bool):Tr→Bool
 |.leaf=>true
 |.node l k v r=>l.all p&&(p k v&&r.all p)
theorem Tr.AM {p:Nat→Rec→Bool}:(tr:Tr)→tr.all p=true→∀ {t v},tr.find t=some v→p t v=true
 |.leaf,_,_,_,h=>by cases h
 |.node l k v r,h,t,u,hf=>by
  unfold Tr.all at h;rw [Bool.and_eq_true,Bool.and_eq_true] at h;unfold Tr.find at hf
  cases hb:Nat.beq t k with
  |true=>
   rw [hb] at hf;injection hf with hf;subst hf;rw [Nat.eq_of_beq_eq_true hb];exact h.2.1
  |false=>
   rw [hb] at hf
   cases hl:Nat.blt t k with
   |true=>rw [hl] at hf;exact Tr.AM l h.1 hf
   |false=>rw [hl] at hf;exact Tr.AM r h.2.2 hf
def n4 (tr:Tr):kK where
 cells t:=(tr.find t).map (·.size)
 agg t:=match tr.find t with | some r=>r.agg | none=>false
 off t f:=match tr.find t with | some r=>(nth r.ca f).map (·.1) | none=>none
 fsz t f:=match tr.find t with | some r=>(nth r.ca f).map (·.2) | none=>none
 row t:=match tr.find t with | some r=>r.row | none=>none
 elem t:=match tr.find t with | some r=>r.elem | none=>none
 m9 _:=none
 kind t:=match tr.find t with | some r=>r.kind | none=>none
 one t f:=match tr.find t with | some r=>r.kG.any (Nat.beq f) | none=>false
 eq t:=match tr.find t with | some r=>r.eq | none=>false
 dp t:=match tr.find t with | some r=>r.dp | none=>false
 cap t:=match tr.find t with | some r=>r.cap | none=>false
 lz t d:=match tr.find t,d with | some r,some d=>r.lz.any (Nat.beq d) | _,_=>false
def mQ:RT→List Value→Bool
 |.nil,[]=>true
 |.cons (.int k) r,.int l n::vs=>decide (k=l)&&decide (n=0)&&mQ r vs
 |.cons .bool r,.bool b::vs => !b&&mQ r vs
 |.cons .str r,.string s::vs=>(match s.data.toList with | []=>true | _=>false)&&mQ r vs
 |.cons (.sl _) r,.slice none 0 0::vs=>mQ r vs
 |_,_=>false
theorem tP:(r:RT)→(vs:List Value)→mQ r vs=true→iJ r vs
 |.nil,[],_=>rfl
 |.nil,_::_,h=>by simp [mQ] at h
 |.cons t r,[],h=>by cases t<;>simp [mQ] at h
 |.cons t r,v::vs,h=>by
  cases t with
  |int k=>
   cases v<;>try (simp [mQ] at h;done)
   rename_i l n;simp only [mQ,Bool.and_eq_true,decide_eq_true_eq] at h;obtain ⟨⟨rfl,rfl⟩,h⟩:=h;exact ⟨vs,rfl,tP r vs h⟩
  |bool=>
   cases v<;>try (simp [mQ] at h;done)
   rename_i b;simp only [mQ,Bool.and_eq_true,Bool.not_eq_true'] at h;obtain ⟨rfl,h⟩:=h;exact ⟨vs,rfl,tP r vs h⟩
  |str=>
   cases v<;>try (simp [mQ] at h;done)
   rename_i s;simp only [mQ,Bool.and_eq_true] at h;obtain ⟨h1,h⟩:=h;refine ⟨vs,?_,tP r vs h⟩;obtain ⟨d⟩:=s;obtain ⟨d⟩:=d
   cases d with
   |nil=>rfl
   |cons _ _=>simp at h1
  |sl q=>
   cases v<;>try (simp [mQ] at h;done)
   rename_i a n m
   cases a with
   |some _=>simp [mQ] at h
   |none=>cases n with
    |succ _=>simp [mQ] at h
    |zero=>cases m with
     |succ _=>simp [mQ] at h
     |zero=>
      have h:mQ r vs=true:=h;exact ⟨vs,rfl,tP r vs h⟩
def sM {α:Type} (o:Option α) (p:α→Bool):Bool:=match o with | some x=>p x | none=>false
theorem fK {α:Type} {o:Option α} {p:α→Bool} (h:sM o p=true):∃x,o=some x∧p x=true:=by
 cases o with
 |none=>cases h
 |some x=>exact ⟨x,rfl,h⟩
def uK (P:Program):List Field→List (Nat×Nat)→Bool
 | [],[]=>true
 |f::fs,(o,s)::ps=>Nat.beq f.offset o&&(sM (P.info? f.type) (fun i=>Nat.beq i.size s)&&(Nat.blt 0 s&&uK P fs ps))
 |_,_=>false
theorem yX {P:Program}:(fs:List Field)→(ps:List (Nat×Nat))→uK P fs ps=true→
  fs.mapM (fun f=>(P.info? f.type).map fun i=>(f.offset,i.size))=some ps∧∀(k:Nat) p,ps[k]?=some p→∃F5 n,fs[k]?=some F5∧F5.offset=p.1∧(P.info? F5.type).map (·.size)=some (n+1)
 | [],[],_=>⟨rfl,fun k p h=>by simp at h⟩
 | [],_::_,h=>by simp [uK] at h
 |_::_,[],h=>by simp [uK] at h
 |f::fs,(o,s)::ps,h=>by
  unfold uK at h;rw [Bool.and_eq_true,Bool.and_eq_true,Bool.and_eq_true] at h;obtain ⟨h1,h2,h3,h4⟩:=h;obtain ⟨i,hi,his⟩:=fK h2;have h1:=Nat.eq_of_beq_eq_true h1;have his:=Nat.eq_of_beq_eq_true his;obtain ⟨g1,g2⟩:=yX fs ps h4;refine ⟨by simp [List.mapM_cons,hi,g1,h1,his],fun k p hp => ?_⟩
  cases k with
  |zero=>
   simp at hp;subst hp;have h3:0<s:=Nat.le_of_ble_eq_true h3;exact ⟨f,s-1,rfl,h1,by rw [hi];simp [his];omega⟩
  |succ k=>exact g2 k p (by simpa using hp)
def JC (P:Program) (t:Nat):Ty→Bool
 |.int k=>sM (P.underlying t) fun | .int l=>decide (k=l) | _=>false
 |.bool=>sM (P.underlying t) fun | .bool=>true | _=>false
 |.str=>sM (P.underlying t) fun | .string=>true | _=>false
 |.sl _=>false
def HK (P:Program) (t:Nat) (r:Rec):Bool:=
 sM (P.info? t) (fun i=>Nat.beq i.size r.size&&(match r.row with | some q=>sM i.zero (fun z=>mQ q z.cells.toList) | none=>true)) &&
 (sM (P.underlying t) (fun d=>(d.isRow==r.agg)&&(bif r.agg then true else Nat.beq r.size 1)&&(match d with | .struct fs=>bif r.agg then uK P fs.toList r.ca else Nat.beq r.ca.length 0 | _ => !r.agg&&Nat.beq r.ca.length 0)
   && (match r.elem with | some (q,b)=>(match d with | .slice e=>sM (P.info? e) (fun i=>Nat.beq i.size q.width&&(Nat.blt 0 q.width&&(Nat.beq i.bytes b&&(Nat.blt 0 b&&sM i.zero (fun z=>mQ q z.cells.toList))))) | _=>false) | none=>true)) &&
 ((match r.kind with | some k=>JC P t k | none=>true)&&(match r.elem with | some (.cons (.int .u8) .nil,_)=>sM (P.underlying t) (fun d=>match d with | .slice e=>JC P e (.int .u8) | _=>false) | _=>true)))
def Vd (P:Program) (t:Nat) (l:List Nat):Bool:=l.all fun f=>sM (P.underlying t) fun d=>match d with | .struct fs=>sM fs[f]? (fun F5=>sM (P.underlying F5.type) fun e => !e.isRow) | _=>false
def AN (P:Program) (t:Nat) (r:Rec):Bool:=HK P t r&&Vd P t r.kG
theorem ti {P:Program} {tr:Tr} (h:tr.all (AN P)=true):fG P (n4 tr):=by
 have ab4:∀ {t r},tr.find t=some r→AN P t r=true:=fun hf=>Tr.AM tr h hf
 have get:∀ {t r},tr.find t=some r→HK P t r=true:=fun hf=>(Bool.and_eq_true _ _▸ab4 hf).1
 have base:∀ {t r},tr.find t=some r→(∃i,P.info? t=some i∧i.size=r.size∧∀q,r.row=some q→∃z,i.zero=some z∧iJ q z.cells.toList)∧
   (∃d,P.underlying t=some d∧d.isRow=r.agg∧(r.agg=false→r.size=1)∧(r.ca≠[]∨r.agg=true→∃fs,d=.struct fs∧uK P fs.toList r.ca=true)∧
    ∀q b,r.elem=some (q,b)→∃e i z,d=.slice e∧P.info? e=some i∧i.size=q.width∧0<q.width∧i.bytes=b∧0<b∧i.zero=some z∧iJ q z.cells.toList)∧
   ∀k,r.kind=some k→JC P t k=true:=by
  intro t r hf;have h1:=get hf;unfold HK at h1;rw [Bool.and_eq_true,Bool.and_eq_true,Bool.and_eq_true] at h1;obtain ⟨h1,h2,h3,_⟩:=h1;obtain ⟨i,hi,h4⟩:=fK h1;rw [Bool.and_eq_true] at h4;obtain ⟨d,hd,h5⟩:=fK h2;rw [Bool.and_eq_true,Bool.and_eq_true,Bool.and_eq_true] at h5;obtain ⟨⟨⟨g1,g2⟩,g3⟩,g4⟩:=h5;refine ⟨⟨i,hi,Nat.eq_of_beq_eq_true h4.1,fun q hq => ?_⟩,⟨d,hd,by simpa using g1,fun MR => ?_,fun eQ => ?_,fun q b he => ?_⟩,fun k hk => ?_⟩
  ·have h6:=h4.2;rw [hq] at h6;obtain ⟨z,hz,h7⟩:=fK h6;exact ⟨z,hz,tP q _ h7⟩
  ·rw [MR] at g2;exact Nat.eq_of_beq_eq_true g2
  ·cases MR:r.agg with
   |true=>
    rw [MR] at g3
    cases d with
    |struct fs=>exact ⟨fs,rfl,g3⟩
    |_=>simp at g3
   |false=>
    rw [MR] at g3;rcases eQ with eQ | eQ
    ·have:Nat.beq r.ca.length 0=true:=by
      cases d with
      |struct fs=>exact g3
      |_=>simpa using g3
     exact absurd (List.length_eq_zero_iff.1 (Nat.eq_of_beq_eq_true this)) eQ
    ·rw [MR] at eQ;cases eQ
  ·rw [he] at g4
   cases d with
   |slice e=>
    obtain ⟨i,h6,h7⟩:=fK g4;rw [Bool.and_eq_true,Bool.and_eq_true,Bool.and_eq_true,Bool.and_eq_true] at h7;obtain ⟨k1,k2,k3,k4,k5⟩:=h7;obtain ⟨z,hz,h8⟩:=fK k5;exact ⟨e,i,z,rfl,h6,Nat.eq_of_beq_eq_true k1,Nat.le_of_ble_eq_true k2,Nat.eq_of_beq_eq_true k3,Nat.le_of_ble_eq_true k4,hz,tP q _ h8⟩
   |_=>cases g4
  ·rw [hk] at h3;exact h3
 have look:∀ {α:Type} {t:Nat} {g:Rec→Option α} {x:α},(match tr.find t with | some r=>g r | none=>none)=some x→∃r,tr.find t=some r∧g r=some x:=by
  intro α t g x hx
  cases hf:tr.find t with
  |none=>rw [hf] at hx;cases hx
  |some r=>rw [hf] at hx;exact ⟨r,rfl,hx⟩
 have ab5:∀ {t:Nat} {g:Rec→Bool},(match tr.find t with | some r=>g r | none=>false)=true→∃r,tr.find t=some r∧g r=true:=by
  intro t g hx
  cases hf:tr.find t with
  |none=>rw [hf] at hx;cases hx
  |some r=>rw [hf] at hx;exact ⟨r,rfl,hx⟩
 exact {
  cells:=fun t n ht=>by
   obtain ⟨r,hf,rfl⟩:=Option.map_eq_some_iff.1 ht;obtain ⟨⟨i,hi,hs,_⟩,_⟩:=base hf;rw [hi];simp [hs]
  agg:=fun t n ht=>by
   obtain ⟨r,hf,rfl⟩:=Option.map_eq_some_iff.1 ht;obtain ⟨_,⟨d,hd,h1,h2,_⟩,_⟩:=base hf;have e:(n4 tr).agg t=r.agg:=by show (match tr.find t with | some r=>r.agg | none=>false)=_;rw [hf]
   exact ⟨d,hd,h1.trans e.symm,fun h=>h2 (e▸h)⟩
  off:=fun t f k ht=>by
   obtain ⟨r,hf,hk⟩:=look ht;obtain ⟨p,hp,rfl⟩:=Option.map_eq_some_iff.1 hk;obtain ⟨_,⟨d,hd,_,_,h3,_⟩,_⟩:=base hf;rw [gd] at hp;obtain ⟨fs,rfl,hfs⟩:=h3 (.inl (by intro e;rw [e] at hp;simp at hp));obtain ⟨F5,n,g1,g2,g3⟩:=(yX fs.toList r.ca hfs).2 f p hp;exact ⟨fs,F5,n,hd,by simpa using g1,g2,g3⟩
  bld:=fun t ht=>by
   obtain ⟨r,hf,MR⟩:=ab5 (g:=fun r=>r.agg) ht;obtain ⟨_,⟨d,hd,_,_,h3,_⟩,_⟩:=base hf;obtain ⟨fs,rfl,hfs⟩:=h3 (.inr MR);refine ⟨fs,r.ca,hd,(yX fs.toList r.ca hfs).1,fun f o s ho hs => ?_⟩;have ho:(match tr.find t with | some r=>(nth r.ca f).map (·.1) | none=>none)=some o:=ho;have hs:(match tr.find t with | some r=>(nth r.ca f).map (·.2) | none=>none)=some s:=hs;rw [hf] at ho hs;obtain ⟨p,hp,rfl⟩:=Option.map_eq_some_iff.1 ho;obtain ⟨p',mA,rfl⟩:=Option.map_eq_some_iff.1 hs;rw [hp] at mA;injection mA with e;subst e;rw [gd] at hp;exact hp
  row:=fun t q ht=>by
   obtain ⟨r,hf,hk⟩:=look (g:=fun r=>r.row) ht;obtain ⟨⟨i,hi,_,h1⟩,_⟩:=base hf;obtain ⟨z,hz,Ga⟩:=h1 q hk;exact ⟨i,z,hi,hz,Ga⟩
  elem:=fun t q b ht=>by
   obtain ⟨r,hf,hk⟩:=look (g:=fun r=>r.elem) ht;obtain ⟨_,⟨d,hd,_,_,_,h4⟩,_⟩:=base hf;obtain ⟨e,i,z,rfl,h5⟩:=h4 q b hk;exact ⟨e,i,z,hd,h5⟩
  u8:=fun t e b ht hu=>by
   obtain ⟨r,hf,hk⟩:=look (g:=fun r=>r.elem) ht;have h1:=get hf;unfold HK at h1;rw [Bool.and_eq_true,Bool.and_eq_true,Bool.and_eq_true] at h1;have h2:=h1.2.2.2;rw [hk] at h2;obtain ⟨d,hd,h3⟩:=fK h2;rw [hu] at hd;injection hd with hd;subst hd;obtain ⟨d2,hd2,h4⟩:=fK h3;rw [hd2]
   cases d2<;>simp at h4
   rw [←h4]
  one:=fun t f ht=>by
   have ht:(match tr.find t with | some r=>r.kG.any (Nat.beq f) | none=>false)=true:=ht
   cases hf:tr.find t with
   |none=>rw [hf] at ht;cases ht
   |some r=>
    rw [hf] at ht;have h2:Vd P t r.kG=true:=(Bool.and_eq_true _ _▸ab4 hf).2;obtain ⟨g,hg,hb⟩:=List.any_eq_true.1 ht;have hb:=Nat.eq_of_beq_eq_true hb;subst hb;have h3:=List.all_eq_true.1 h2 f hg;obtain ⟨d,hd,h4⟩:=fK h3
    cases d with
    |struct fs=>
     obtain ⟨F5,ahx,h5⟩:=fK h4;obtain ⟨e,he,h6⟩:=fK h5;exact ⟨fs,F5,e,hd,ahx,he,by simpa using h6⟩
    |_=>cases h4
  kind:=fun t y ht=>by
   obtain ⟨r,hf,hk⟩:=look (g:=fun r=>r.kind) ht;have h1:=(base hf).2.2 y hk
   cases y with
   |int k=>
    obtain ⟨d,hd,h2⟩:=fK h1;refine ⟨d,hd,?_⟩
    cases d<;>simp at h2
    rw [h2];rfl
   |bool=>
    obtain ⟨d,hd,h2⟩:=fK h1;refine ⟨d,hd,?_⟩
    cases d<;>simp at h2
    rfl
   |str=>
    obtain ⟨d,hd,h2⟩:=fK h1;refine ⟨d,hd,?_⟩
    cases d<;>simp at h2
    rfl
   |sl _=>cases h1 }
end Go.TM
namespace Go.TM
open Go Go.RowKit
def ed:Code→List (Nat×Code)
 |.seq a b=>ed a++ed b
 |.cond _ a b=>ed a++ed b
 |.block id (.loop b)=>[(id,b)]
 |.block _ a=>ed a
 |_=>[]
theorem uL {ok:Nat→Code→Prop}:(c:Code)→(∀p∈ed c,ok p.1 p.2)→fp ok c:=by
 intro c
 induction c with
 |seq a b Ww Wx=>
  intro h;unfold ed at h;exact ⟨Ww fun p hp=>h p (List.mem_append_left _ hp),Wx fun p hp=>h p (List.mem_append_right _ hp)⟩
 |cond x a b Ww Wx=>
  intro h;unfold ed at h;exact ⟨Ww fun p hp=>h p (List.mem_append_left _ hp),Wx fun p hp=>h p (List.mem_append_right _ hp)⟩
 |block id a ih=>
  intro h
  by_cases hb:∃b',a=.loop b'
  ·obtain ⟨b',rfl⟩:=hb;exact h (id,b') (by unfold ed;exact List.mem_cons_self)
  ·cases a with
   |loop b'=>exact absurd ⟨b',rfl⟩ hb
   |_=>unfold ed at h;unfold fp;exact ih h
 |_=>intro _;unfold fp;trivial
def HL (c:Code) (i:Nat):Code:=match nth (ed c) i with | some p=>p.2 | none=>.skip
def ju (D:mJ):Code→Bool
 |.region id ops true=>Eo ops (D id)
 |.seq a b=>ju D a&&ju D b
 |.cond _ a b=>ju D a&&ju D b
 |.block _ (.loop _)=>true
 |.block _ a=>ju D a
 |_=>true
theorem wX {D:mJ}:(c:Code)→ju D c=true→fI (fun id ops=>Eo ops (D id)=true) c:=by
 intro c
 induction c with
 |region id ops dr=>
  intro h
  cases dr with
  |true=>exact h
  |false=>unfold fI;trivial
 |seq a b Ww Wx=>
  intro h;unfold ju at h;rw [Bool.and_eq_true] at h;exact ⟨Ww h.1,Wx h.2⟩
 |cond x a b Ww Wx=>
  intro h;unfold ju at h;rw [Bool.and_eq_true] at h;exact ⟨Ww h.1,Wx h.2⟩
 |block id a ih=>
  intro h
  by_cases hb:∃b',a=.loop b'
  ·obtain ⟨b',rfl⟩:=hb;unfold fI;trivial
  ·cases a with
   |loop b'=>exact absurd ⟨b',rfl⟩ hb
   |_=>unfold ju at h;unfold fI;exact ih h
 |_=>intro _;unfold fI;trivial
def Src.same:Src→Src→Bool
 |.tmp a,.tmp b=>Nat.beq a b
 |.cell a,.cell b=>Nat.beq a b
 |.ptr a,.ptr b=>Nat.beq a b
 |_,_=>false
theorem Src.AO:{a b:Src}→a.same b=true→a=b
 |.tmp _,.tmp _,h=>congrArg Src.tmp (Nat.eq_of_beq_eq_true h)
 |.cell _,.cell _,h=>congrArg Src.cell (Nat.eq_of_beq_eq_true h)
 |.ptr _,.ptr _,h=>congrArg Src.ptr (Nat.eq_of_beq_eq_true h)
 |.tmp _,.cell _,h=>by cases h
 |.tmp _,.ptr _,h=>by cases h
 |.cell _,.tmp _,h=>by cases h
 |.cell _,.ptr _,h=>by cases h
 |.ptr _,.tmp _,h=>by cases h
 |.ptr _,.cell _,h=>by cases h
def JD (T:kK):List ResultVar→List RP→Bool
 | [],[]=>true
 |.tmp t::vs,r::rs=>(r.src.same (.tmp t)||r.src.same (.ptr t))&&JD T vs rs
 |.cell t ty::vs,r::rs=>r.src.same (.cell t)&&((match T.cells ty with | some n=>Nat.beq n r.ps.length | none=>false)&&((T.agg ty==r.agg)&&JD T vs rs))
 |_,_=>false
theorem Dx {T:kK} (tm:Array Value):(vs:List ResultVar)→(rs:List RP)→JD T vs rs=true→yU T tm vs rs
 | [],[],_=>trivial
 | [],_::_,h=>by simp [JD] at h
 |v::_,[],h=>by cases v<;>simp [JD] at h
 |.tmp t::vs,r::rs,h=>by
  unfold JD at h;rw [Bool.and_eq_true,Bool.or_eq_true] at h;exact ⟨h.1.imp Src.AO Src.AO,Dx tm vs rs h.2⟩
 |.cell t ty::vs,r::rs,h=>by
  unfold JD at h;rw [Bool.and_eq_true,Bool.and_eq_true,Bool.and_eq_true] at h;obtain ⟨h1,h2,h3,h4⟩:=h;refine ⟨⟨Src.AO h1,?_,by simpa using h3⟩,Dx tm vs rs h4⟩
  cases hc:T.cells ty with
  |none=>rw [hc] at h2;cases h2
  |some n=>rw [hc] at h2;rw [Nat.eq_of_beq_eq_true h2]
abbrev Wy:=List (Nat×(Pm×Pm×Pm×ug))
def yY:Wy→kV
 | [],_=>none
 |(g,s)::l,f=>bif Nat.beq f g then some s else yY l f
structure np (P:Program) (f:FuncId) (zY:ug):Prop where
 ok:FnOk P f zY
 fn:∃fn,P.funcs[f]?=some fn∧(fn.name == "runtime.NumGoroutine")=false∧fn.body.isNone=false
theorem Rb {P:Program}:od P (yY []):=fun f a b c zY h=>by cases h
theorem Oi {P:Program} {g:Nat} {a b c:Pm} {zY:ug} {l:Wy} (hk:np P g zY) (hl:od P (yY l)):od P (yY ((g,(a,b,c,zY))::l)):=by
 intro f a' b' c' Tp h;unfold yY at h
 cases hb:Nat.beq f g with
 |true=>
  rw [hb] at h;injection h with h;injection h with _ h;injection h with _ h;injection h with _ h;subst h;rw [Nat.eq_of_beq_eq_true hb];exact ⟨hk.ok,hk.fn⟩
 |false=>rw [hb] at h;exact hl f a' b' c' Tp h
def fnB (T:kK) (D:mJ) (fn:Func) (code:Code) (n:Nat) (ps:List AP) (rs:List RP):Bool:=
 Nat.beq fn.ntmps n&&(Nat.ble ps.length n&&(jm n code&&(JD T fn.results.toList rs&&ju D code)))
theorem Tq {P:Program} {tr:Tr} (hT:tr.all (AN P)=true) (hE:yQ P (n4 tr)) (hm:P.follows .mixedOrders=true) {S:kV} (hS:od P S) {D:mJ} {f:FuncId} {fn:Func} {code:Code} {n:Nat} {ps:List AP} {rs:List RP}
  {L:qk (aw (cN rs (bC ps)))} {t:aw (aK (ps.map some))→Option (aw (cN rs (bC ps)))}
  (hf:P.funcs[f]?=some fn) (hb:fn.body=some code) (tf:fnB (n4 tr) D fn code n ps rs=true) (Rc:(fn.name == "runtime.NumGoroutine")=false)
  (hL:∀(w0:World) (mu:Mu) (y:aw (cN rs (bC ps))),lF ps mu→∀p∈ed code,oa P w0 mu n L y p.1 p.2)
  (Q6:∀x,fj (n4 tr) S D L code (start n ps x) (FB rs ps)=t x):np P f (kO ps rs t):=by
 unfold fnB at tf;rw [Bool.and_eq_true,Bool.and_eq_true,Bool.and_eq_true,Bool.and_eq_true] at tf;obtain ⟨h1,h2,h3,h4,h5⟩:=tf;refine ⟨ab0 (ti hT) hE hS hf hb (Nat.eq_of_beq_eq_true h1) (Nat.le_of_ble_eq_true h2) h3 (fun tm=>Dx tm _ _ h4) (fun w0 mu y hs=>uL code (hL w0 mu y hs))
  (fun w0 mu=>BR (ti hT) hE hm (AF (ti hT) hE hS w0 mu n)) (wX code h5) Q6,fn,hf,Rc,by rw [hb];rfl⟩
def GB (D:mJ) (ps:List AP) (hp e0 e1:List (Option AP)) (n:Nat) (b:Code):Bool:=
 (gv ps hp&&(gv ps e0&&gv ps e1))&&(jm n b&&ju D b)
theorem Oj {R:Type} {al:List (Nat×Nat×Nat)} {P:Program} {tr:Tr} (hT:tr.all (AN P)=true) (hE:yQ P (n4 tr)) (hm:P.follows .mixedOrders=true) {S:kV} (hS:od P S) {D:mJ} {n id:Nat} {w0:World} {mu:Mu} {ps:List AP} {hp e0 e1:List (Option AP)} {b:Code} {r:R} {L:qk R}
  {L':qk (Sum (aw (aK hp)) (Sum (aw (aK e0)) (aw (aK e1))))} {round:aw (aK hp)→Option (Sum (aw (aK hp)) (Sum (aw (aK e0)) (aw (aK e1))))}
  (hs:lF ps mu) (tf:GB D ps hp e0 e1 n b=true)
  (Dh:∀z,∀p∈ed b,oa P w0 mu n L' z p.1 p.2) (La:∀x,fj (n4 tr) S D L' b (sL al hp x) (BP al id hp e0 e1)=round x) (hL:∀st k,L id b st k=BQ al hp e0 e1 round st k):oa P w0 mu n L r id b:=by
 unfold GB at tf;rw [Bool.and_eq_true,Bool.and_eq_true (jm n b)] at tf;exact Tn (AF (ti hT) hE hS w0 mu n) (BR (ti hT) hE hm (AF (ti hT) hE hS w0 mu n)) hs tf.1 tf.2.1 (wX b tf.2.2) (fun z=>uL b (Dh z)) La hL
def bO {A B C:Type} (o:Option (Sum A B)) (f:A→Option C) (g:B→Option C):Option C:=
 o.bind fun z=>match z with
  |.inl y=>f y
  |.inr y=>g y
end Go.TM
namespace Go.TM
open Go Go.RowKit Go.ChangeShapes
def RT.app:RT→RT→RT
 |.nil,s=>s
 |.cons t r,s=>.cons t (r.app s)
def Ts:(r s:RT)→aw r→aw s→aw (r.app s)
 |.nil,_,_,y=>y
 |.cons _ r,s,x,y=>(x.1,Ts r s x.2 y)
mutual
def AQ:(t:Ty)→den t→Prop
 |.int k,n=>(Lit.int k n).wf=true
 |.bool,_=>True
 |.str,s=>ByteArray.size s≤maxLen
 |.sl r,xs=>(Mz xs).length≤maxLen∧∀x∈Mz xs,CQ r x
def CQ:(r:RT)→aw r→Prop
 |.nil,_=>True
 |.cons t r,x=>AQ t x.1∧CQ r x.2
end
theorem Er (x:aw .nil):CQ .nil x:=CQ.eq_1 x▸trivial
theorem cJ {t:Ty} {r:RT} {x:aw (.cons t r)}:CQ (.cons t r) x↔AQ t x.1∧CQ r x.2:=CQ.eq_2 t r x▸Iff.rfl
theorem Ve {k:IntKind} {n:Int}:AQ (.int k) n↔(Lit.int k n).wf=true:=AQ.eq_1 k n▸Iff.rfl
theorem Wz {b:Bool}:AQ .bool b:=AQ.eq_2 b▸trivial
theorem Vf {s:ByteArray}:AQ .str s↔ByteArray.size s≤maxLen:=AQ.eq_3 s▸Iff.rfl
theorem Tt {r:RT} {xs:List (aw r)}:AQ (.sl r) xs↔(xs.length≤maxLen∧∀x∈xs,CQ r x):=AQ.eq_4 r xs▸Iff.rfl
theorem RT.BS:(r s:RT)→(r.app s).width=r.width+s.width
 |.nil,s=>by simp [RT.app,RT.width]
 |.cons t r,s=>by simp [RT.app,RT.width,RT.BS r s];omega
theorem cK.cat {w:World} {ok:Nat→Prop}:(r s:RT)→(l m:List Value)→(x:aw r)→(y:aw s)→cK w ok r l x→cK w ok s m y→cK w ok (r.app s) (l++m) (Ts r s x y)
 |.nil,s,l,m,x,y,h,h'=>by
  have:l=[]:=h;subst this;exact h'
 |.cons t r,s,l,m,x,y,h,h'=>by
  obtain ⟨v,l',rfl,h1,h2⟩:=h;exact ⟨v,l'++m,rfl,h1,cK.cat r s l' m x.2 y h2 h'⟩
theorem CQ.cat:(r s:RT)→(x:aw r)→(y:aw s)→CQ r x→CQ s y→CQ (r.app s) (Ts r s x y)
 |.nil,_,_,_,_,h'=>h'
 |.cons t r,s,x,y,h,h'=>by
  exact cJ.2 ⟨(cJ.1 h).1,CQ.cat r s x.2 y (cJ.1 h).2 h'⟩
def Es (P:Program) (row:TypeId→Option RT):Nat→List Field→Option RT
 |_,[]=>some .nil
 |off,f::fs=>match row f.type with
  |some q=>(match Es P row (off+q.width) fs with
   |some r=>bif Nat.beq f.offset off&&Nat.beq (P.cellsOf f.type) q.width then some (q.app r) else none
   |none=>none)
  |none=>none
def Et (P:Program):Nat→TypeId→Option RT
 |0,_=>none
 |n+1,t=>match P.underlying t with
  |some .bool=>some (.cons .bool .nil)
  |some (.int k)=>some (.cons (.int k) .nil)
  |some .string=>some (.cons .str .nil)
  |some (.slice e)=>(match Et P n e with
   |some q=>bif Nat.beq (P.cellsOf e) q.width&&Nat.blt 0 q.width then some (.cons (.sl q) .nil) else none
   |none=>none)
  |some (.struct fs)=>(match Es P (Et P n) 0 fs.toList with
   |some r=>bif Nat.beq (P.cellsOf t) r.width then some r else none
   |none=>none)
  |_=>none
theorem M1 {α:Type} {Pr:Nat→α→Prop}:(n:Nat)→(∀i,i<n→∃x,Pr i x)→∃xs:List α,xs.length=n∧∀(i:Nat) x,xs[i]?=some x→Pr i x
 |0,_=>⟨[],rfl,fun i x h=>by simp at h⟩
 |n+1,h=>by
  obtain ⟨xs,h1,h2⟩:=M1 n (fun i hi=>h i (by omega));obtain ⟨x,hx⟩:=h n (by omega);refine ⟨xs++[x],by simp [h1],fun i y hy => ?_⟩
  by_cases hi:i<n
  ·rw [List.getElem?_append_left (by omega)] at hy;exact h2 i y hy
  ·rw [List.getElem?_append_right (by omega)] at hy;have Dh:i=n:=by
    have:=(List.getElem?_eq_some_iff.1 hy).1;simp at this;omega
   subst Dh;rw [h1,Nat.sub_self] at hy;simp at hy;rw [←hy];exact hx
theorem GC {w:World} {a:Addr} {v:Value} (h:w.cell? a=some v):a.spot=none:=by
 unfold World.cell? at h
 split at h
 ·split at h
  ·cases h
  ·rename_i hs;simpa using hs
 ·cases h
theorem JE {α β:Type} {f:α→Option β}:(l:List α)→{m:List β}→l.mapM f=some m→m.length=l.length∧∀(i:Nat) a,l[i]?=some a→f a=m[i]?
 | [],m,h=>by
  simp at h;subst h;exact ⟨rfl,fun i a ha=>by simp at ha⟩
 |a::l,m,h=>by
  rw [List.mapM_cons] at h
  cases ha:f a with
  |none=>simp [ha] at h
  |some b=>
   cases hl:l.mapM f with
   |none=>simp [ha,hl] at h
   |some m'=>
    simp [ha,hl] at h;subst h;obtain ⟨h1,h2⟩:=JE l hl;refine ⟨by simp [h1],fun i x hx => ?_⟩
    cases i with
    |zero=>simp at hx;subst hx;simpa using ha
    |succ i=>simpa using h2 i x (by simpa using hx)
theorem CR {w:World} {base n:Nat} {a:Addr} {vs:List Value} (h:w.cells? base a n=some vs):vs.length=n∧w.rangeAt a.block a.off vs∧(0<n→a.spot=none):=by
 unfold World.cells? at h
 split at h
 ·obtain ⟨h1,h2⟩:=JE _ h;simp at h1;have each:∀j v,vs[j]?=some v→w.cell? (a.add j)=some v:=by
   intro j v hv;have hj:j<n:=by
    have:=(List.getElem?_eq_some_iff.1 hv).1;omega
   rw [h2 j j (by simp [hj]),hv]
  refine ⟨h1,fun j v hv => ?_,fun hn => ?_⟩
  ·have:=each j v hv;have hs:=GC this;have e:a.add j=⟨a.block,a.off+j,none⟩:=by
    unfold Addr.add at hs ⊢
    split
    ·rename_i h0;subst h0;rw [if_pos rfl] at hs;obtain ⟨b,o,s⟩:=a;simp at hs;subst hs;rfl
    ·rfl
   rw [←e];exact this
  ·have bQ:0<vs.length:=by omega
   have:=each 0 vs[0] (by simp [bQ]);have hs:=GC this;simpa [Addr.add] using hs
 ·cases h
theorem GD {P:Program} {w:World} {cs:List Value} {row:TypeId→Option RT}:(fs:List Field)→(off:Nat)→(r:RT)→Es P row off fs=some r→
  (∀f∈fs,∀q,row f.type=some q→∃x:aw q,cK w (fun _=>True) q ((cs.drop f.offset).take (P.cellsOf f.type)) x∧CQ q x)→off+r.width≤cs.length→
  ∃x:aw r,cK w (fun _=>True) r ((cs.drop off).take r.width) x∧CQ r x
 | [],off,r,h,_,_=>by
  simp only [Es,Option.some.injEq] at h;subst h;exact ⟨(),by simp [RT.width,cK],Er _⟩
 |f::fs,off,r,h,hf,hl=>by
  unfold Es at h
  cases hq:row f.type with
  |none=>simp [hq] at h
  |some q=>
   simp only [hq] at h
   cases hr:Es P row (off+q.width) fs with
   |none=>simp [hr] at h
   |some r'=>
    simp only [hr] at h;obtain ⟨h1,h2⟩:=aI h;injection h2 with h2;subst h2;rw [Bool.and_eq_true] at h1;have ho:=Nat.eq_of_beq_eq_true h1.1;have hc:=Nat.eq_of_beq_eq_true h1.2;rw [RT.BS] at hl;obtain ⟨x,KS,Aj⟩:=hf f List.mem_cons_self q hq;obtain ⟨y,hy1,hy2⟩:=GD fs (off+q.width) r' hr (fun g hg=>hf g (List.mem_cons_of_mem _ hg)) (by omega);refine ⟨Ts q r' x y,?_,CQ.cat q r' x y Aj hy2⟩;rw [RT.BS,List.take_add,List.drop_drop];rw [ho,hc] at KS;exact cK.cat q r' _ _ x y KS hy1
theorem HM {H:Type} {enc:TypeId×Value→H} {P:Program} {w:World} {base:Nat} {spare:Nat→Bool} {held:Bool}:(n:Nat)→∀ {t:TypeId} {r:RT} {fuel:Nat} {cs:List Value} {y:DataW H×List MemPlace},Et P n t=some r→
  DataW.trod enc P w base spare held fuel t cs=some y→∃x:aw r,cK w (fun _=>True) r cs x∧CQ r x
 |0,_,_,_,_,_,h,_=>by cases h
 |n+1,t,r,fuel,cs,y,h,hd=>by
  unfold Et at h
  cases hu:P.underlying t with
  |none=>simp [hu] at h
  |some d=>
   cases d with
   |bool=>
    simp only [hu,Option.some.injEq] at h;subst h;obtain ⟨b,rfl,_⟩:=DataW.trod_bool hu hd;exact ⟨((b:Bool),()),⟨_,_,rfl,sD.2 rfl,rfl⟩,cJ.2 ⟨Wz,Er _⟩⟩
   |int k=>
    simp only [hu,Option.some.injEq] at h;subst h;obtain ⟨m,rfl,_,hw⟩:=DataW.trod_int hu hd;exact ⟨((m:Int),()),⟨_,_,rfl,rh.2 rfl,rfl⟩,cJ.2 ⟨Ve.2 hw,Er _⟩⟩
   |string=>
    simp only [hu,Option.some.injEq] at h;subst h;obtain ⟨s,rfl,_,hw⟩:=DataW.trod_string hu hd;exact ⟨((s:ByteArray),()),⟨_,_,rfl,wC.2 rfl,rfl⟩,cJ.2 ⟨Vf.2 hw,Er _⟩⟩
   |slice e=>
    simp only [hu] at h
    cases hq:Et P n e with
    |none=>simp [hq] at h
    |some q=>
     simp only [hq] at h;obtain ⟨h1,h2⟩:=aI h;injection h2 with h2;subst h2;rw [Bool.and_eq_true] at h1;have hw:=Nat.eq_of_beq_eq_true h1.1;have QL:0<q.width:=Nat.le_of_ble_eq_true h1.2;rcases DataW.trod_slice hu hd with ⟨rfl,_⟩ | ⟨a,len,cap,elems,rest,m,_,rfl,_,hb,hl,hm,hlen,WA,_,_⟩
     ·exact ⟨(([]:List (aw q)),()),⟨_,_,rfl,(ni _ _ _ _ _).2 (.inl ⟨rfl,rfl⟩),rfl⟩,cJ.2 ⟨Tt.2 ⟨Nat.zero_le _,fun x hx=>by cases hx⟩,Er _⟩⟩
     ·have each:∀i,i<len→∃x:aw q,(cI w (fun _=>True) q a.block (a.off+i*q.width) x∧CQ q x)∧a.spot=none∧a.block<w.heap.size:=by
       intro i hi;have h3:=WA i hi;rw [List.getElem?_eq_getElem (by omega),Option.bind_eq_some_iff] at h3;obtain ⟨vs,wF,hy⟩:=h3;obtain ⟨x,hx,hs⟩:=HM n hq hy;obtain ⟨g1,g2,g3⟩:=CR wF;have hbk:(a.add (i*P.cellsOf e)).block=a.block:=by unfold Addr.add;split<;>rfl
       have hof:(a.add (i*P.cellsOf e)).off=a.off+i*q.width:=by
        unfold Addr.add;rw [hw]
        split
        ·rename_i h0;rw [h0];rfl
        ·rfl
       rw [hbk,hof] at g2;refine ⟨x,⟨(j7 q _ _ x).2 ⟨vs,g2,hx⟩,hs⟩,?_,?_⟩
       ·have h4:=WA 0 (by omega);rw [List.getElem?_eq_getElem (by omega),Option.bind_eq_some_iff] at h4;obtain ⟨vs0,ahz,_⟩:=h4;have:=(CR ahz).2.2 (by omega);simpa [Addr.add] using this
       ·have bQ:0<vs.length:=by omega
        have h5:=MA (g2 0 vs[0] (by simp [bQ]));exact h5
      obtain ⟨xs,KS,Aj⟩:=M1 len each;refine ⟨((xs:List (aw q)),()),⟨_,_,rfl,(ni _ _ _ _ _).2 (.inr ⟨a,cap,by rw [KS],by rw [KS];exact hl,fun eQ => ?_,fun i x hi=>(Aj i x hi).1.1⟩),rfl⟩,?_⟩
      ·have bQ:0<xs.length:=List.length_pos_iff.2 eQ;have:=(Aj 0 xs[0] (by simp [bQ])).2;exact ⟨this.1,this.2,trivial⟩
      ·refine cJ.2 ⟨Tt.2 ⟨by show xs.length≤maxLen;omega,fun x hx => ?_⟩,Er _⟩;obtain ⟨i,hi⟩:=List.getElem?_of_mem hx;exact (Aj i x hi).1.2
   |struct fs=>
    simp only [hu] at h
    cases hq:Es P (Et P n) 0 fs.toList with
    |none=>simp [hq] at h
    |some q=>
     simp only [hq] at h;obtain ⟨h1,h2⟩:=aI h;injection h2 with h2;subst h2;have hw:=Nat.eq_of_beq_eq_true h1;obtain ⟨xs,m,_,_,hlen,UZ,WA⟩:=DataW.trod_struct hu hd;obtain ⟨x,g1,g2⟩:=GD (w:=w) (cs:=cs) fs.toList 0 q hq (fun f hf p hp=>by
      obtain ⟨i,hi⟩:=List.getElem?_of_mem hf;rw [Array.getElem?_toList] at hi;have h3:=WA i f hi;have bQ:i<fs.size:=(Array.getElem?_eq_some_iff.1 hi).1;rw [List.getElem?_eq_getElem (by omega)] at h3;exact HM n hp h3) (by omega)
     refine ⟨x,?_,g2⟩;have:(cs.drop 0).take q.width=cs:=by rw [List.drop_zero,List.take_of_length_le (by omega)]
     rwa [this] at g1
   |_=>simp [hu] at h
end Go.TM
namespace Go.TM
open Go Go.RowKit Go.ChangeShapes
mutual
theorem Ty.wY:(t:Ty)→Ty.eq? t t=some ⟨rfl⟩
 |.int k=>by simp [Ty.eq?]
 |.bool=>rfl
 |.str=>rfl
 |.sl r=>by simp [Ty.eq?,RT.wY r]
theorem RT.wY:(r:RT)→RT.eq? r r=some ⟨rfl⟩
 |.nil=>rfl
 |.cons t r=>by simp [RT.eq?,Ty.wY t,RT.wY r]
end
theorem Lf (r:RT) (xs:List (aw r)):bw r xs=some xs:=by
 unfold bw;rw [RT.wY]
theorem sN {p:OP} {ps:List OP} {t:RT} {o:OV} {os:List OV} {y:aw t} {x:den p.ty} {z:aw (lR ps t)} (h1:qo p o=some x) (h2:cL ps t os y=some z):cL (p::ps) t (o::os) y=some ((x,z):aw (lR (p::ps) t)):=by
 unfold cL;rw [h1,h2];rfl
theorem Ol {k:IntKind} {n:Int}:qo (.int k) (.int k n)=some n:=if_pos rfl
def nr:RT→List OP
 |.nil=>[]
 |.cons (.int k) r=>.int k::nr r
 |.cons .bool r=>.bool::nr r
 |.cons .str r=>.str::nr r
 |.cons (.sl q) r=>.shr q::nr r
def Cz.free:Cz:={ bx:=fun _=>0,lc:=fun _ _=>.nil,own:=fun _=>none }
theorem JF {w:World} {f:Nat→Lb}:(r:RT)→(t:RT)→(j:Nat)→(vs:List Value)→(x:aw r)→(y:aw t)→cK w (fun _=>True) r vs x→CQ r x→
  ∃z:aw (lR (nr r) t),a7 Cz.free w f j (dU (nr r) t z).1 vs∧cL (nr r) t (dU (nr r) t z).1 y=some z∧(CQ t y→CQ (lR (nr r) t) z)
 |.nil,t,j,vs,x,y,h,_=>by
  have:vs=[]:=h;subst this;exact ⟨y,rfl,rfl,id⟩
 |.cons ty r,t,j,vs,x,y,h,hs=>by
  obtain ⟨v,l,rfl,h1,h2⟩:=h;obtain ⟨s1,s2⟩:=cJ.1 hs;obtain ⟨z,g1,g2,g3⟩:=JF (f:=f) r t (j+1) l x.2 y h2 s2
  cases ty with
  |int k=>
   refine ⟨(x.1,z),⟨l,by rw [rh.1 h1],g1⟩,?_,fun hy=>cJ.2 ⟨s1,g3 hy⟩⟩;exact sN (p:=.int k) (o:=.int k x.1) (Ol) g2
  |bool=>
   refine ⟨(x.1,z),⟨l,by rw [sD.1 h1],g1⟩,?_,fun hy=>cJ.2 ⟨s1,g3 hy⟩⟩;exact sN (p:=.bool) (o:=.bool x.1) (rfl) g2
  |str=>
   refine ⟨(x.1,z),⟨l,by rw [wC.1 h1],g1⟩,?_,fun hy=>cJ.2 ⟨s1,g3 hy⟩⟩;exact sN (p:=.str) (o:=.str x.1) (rfl) g2
  |sl q=>
   refine ⟨(x.1,z),⟨v,l,rfl,bN.stays ⟨Nat.le_refl _,fun _ _ _=>rfl,fun _ _ _=>rfl⟩ _ _ _ h1,g1⟩,?_,fun hy=>cJ.2 ⟨s1,g3 hy⟩⟩;exact sN (p:=.shr q) (o:=.shr q x.1) (Lf q x.1) g2
def OP.same:OP→OP→Bool
 |.int k,.int l=>decide (k=l)
 |.bool,.bool=>true
 |.str,.str=>true
 |.shr r,.shr s=>(RT.eq? r s).isSome
 |_,_=>false
theorem OP.AO {p q:OP} (h:p.same q=true):p=q:=by
 cases p<;>cases q<;>simp [OP.same] at h
 ·rw [h]
 ·rfl
 ·rfl
 ·rename_i r s;obtain ⟨⟨e⟩,_⟩:=Option.isSome_iff_exists.1 h;rw [e]
def xM:List OP→List OP→Bool
 | [],[]=>true
 |p::l,q::m=>p.same q&&xM l m
 |_,_=>false
theorem Eu:(l m:List OP)→xM l m=true→l=m
 | [],[],_=>rfl
 |p::l,q::m,h=>by
  unfold xM at h;rw [Bool.and_eq_true] at h;rw [OP.AO h.1,Eu l m h.2]
 | [],_::_,h=>by simp [xM] at h
 |_::_,[],h=>by simp [xM] at h
def Kx (P:Program):List TypeId→List AP→Bool
 | [],[]=>true
 |t::ts,.val agg os::ps=>(match Et P 30 t with
   |some r=>xM (nr r) os
   |none=>false)&&((match P.underlying t with | some (.struct _)=>agg | _ => !agg)&&(P.readableRec t&&(Nat.blt t P.types.size&&Kx P ts ps)))
 |_,_=>false
theorem one_cell {P:Program} {w:World} {r:Reach} {b:Nat} {t:TypeId} {v:Value} {rt:RT} (hn:Et P 30 t=some rt) (hs:∀fs,P.underlying t≠some (.struct fs)) (h:Value.okWide P w r b t v):v.cells.toList=[v]:=by
 cases hu:P.underlying t with
 |none=>simp [Et,hu] at hn
 |some d=>
  cases v<;>try rfl
  rename_i cs
  exfalso
  cases d<;>first | exact hs _ hu | (simp [Et,hu] at hn;done) | (simp [Value.okWide,hu,Cell.okWide,Cell.ok] at h)
theorem GF {H:Type} {enc:TypeId×Value→H} {P:Program} {w:World} {lc:Nat→Nat→Loc}:(ts:List TypeId)→(ps:List AP)→Kx P ts ps=true→(i:Nat)→(vs:List Value)→(ds:List (DataW H))→(p:List MemPlace)→
  (∀(j:Nat) t v,ts[j]?=some t→vs[j]?=some v→∃b,Value.okWide P w .any b t v)→DataW.TrodAll enc P w 0 (fun _=>true) true ts vs ds p→
  ∃(x:aw (aK (ps.map some))) (da:List AV),dY ps da=some x∧ob Cz.free w lc i da vs∧CQ (aK (ps.map some)) x
 | [],[],_,i,vs,ds,p,_,hA=>by
  obtain ⟨rfl,_,_⟩:=trodAll_nil hA;exact ⟨(),[],rfl,rfl,Er _⟩
 | [],_::_,hb,_,_,_,_,_,_=>by simp [Kx] at hb
 |t::ts,[],hb,_,_,_,_,_,_=>by simp [Kx] at hb
 |t::ts,.io _ _::_,hb,_,_,_,_,_,_=>by simp [Kx] at hb
 |t::ts,.box _ _::_,hb,_,_,_,_,_,_=>by simp [Kx] at hb
 |t::ts,.bL _::_,hb,_,_,_,_,_,_=>by simp [Kx] at hb
 |t::ts,.val agg os::ps,hb,i,vs,ds,p,pH,hA=>by
  obtain ⟨v,vs',d,ds',p',q',rfl,rfl,rfl,h1,h2⟩:=trodAll_cons hA;unfold Kx at hb;rw [Bool.and_eq_true,Bool.and_eq_true,Bool.and_eq_true,Bool.and_eq_true] at hb;obtain ⟨b1,b2,_,_,b5⟩:=hb;obtain ⟨y,da,g1,g2,g3⟩:=GF (lc:=lc) ts ps b5 (i+1) vs' ds' q' (fun j t v ht hv=>pH (j+1) t v (by simpa using ht) (by simpa using hv)) h2;obtain ⟨b0,fk⟩:=pH 0 t v rfl rfl
  cases hr:Et P 30 t with
  |none=>rw [hr] at b1;cases b1
  |some r=>
   rw [hr] at b1;have rn:=Eu _ _ b1;subst rn;obtain ⟨fuel,hd⟩:=h1;obtain ⟨x,KS,Aj⟩:=HM 30 hr hd;obtain ⟨z,k1,k2,k3⟩:=JF (f:=.bK i) r (aK (ps.map some)) 0 v.cells.toList x y KS Aj
   cases agg with
   |false=>
    have hs:∀fs,P.underlying t≠some (.struct fs):=by
     intro fs e;rw [e] at b2
     cases b2
    rw [one_cell hr hs fk] at k1;refine ⟨z,.val false (dU (nr r) (aK (ps.map some)) z).1::da,?_,⟨v,vs',rfl,k1,g2⟩,k3 g3⟩;show (match dY ps da with | some y=>Gt (.val false (nr r)) (aK (ps.map some)) (.val false _) y | none=>none)=_;rw [g1];exact k2
   |true=>
    obtain ⟨fs,hu⟩:∃fs,P.underlying t=some (.struct fs):=by
     cases hu:P.underlying t with
     |none=>rw [hu] at b2;cases b2
     |some d=>
      rw [hu] at b2
      cases d<;>first | exact ⟨_,rfl⟩ | cases b2
    obtain ⟨cs,rfl,_⟩:∃cs,v=.agg cs∧True:=by
     unfold Value.okWide at fk;rw [hu] at fk;obtain ⟨cs,e,_⟩:=fk;exact ⟨cs,e,trivial⟩
    refine ⟨z,.val true (dU (nr r) (aK (ps.map some)) z).1::da,?_,⟨.agg cs,vs',rfl,⟨cs,rfl,k1⟩,g2⟩,k3 g3⟩;show (match dY ps da with | some y=>Gt (.val true (nr r)) (aK (ps.map some)) (.val true _) y | none=>none)=_;rw [g1];exact k2
theorem GG {H:Type} {enc:TypeId×Value→H} {P:Program} (hl:laidOutB P=true) {W W':World} (hb:Below W.heap.size W W'):(ts:List TypeId)→(ps:List AP)→Kx P ts ps=true→(vs:List Value)→(ds:List (DataW H))→(p:List MemPlace)→(∀x∈p,x.block<W.heap.size)→
  DataW.TrodAll enc P W 0 (fun _=>true) true ts vs ds p→DataW.TrodAll enc P W' 0 (fun b=>decide (b<W.heap.size)) true ts vs ds p
 | [],[],_,vs,ds,p,_,hA=>by
  obtain ⟨rfl,rfl,rfl⟩:=trodAll_nil hA;exact trodAll_mk0
 | [],_::_,hb,_,_,_,_,_=>by simp [Kx] at hb
 |t::ts,[],hb,_,_,_,_,_=>by simp [Kx] at hb
 |t::ts,.io _ _::_,hb,_,_,_,_,_=>by simp [Kx] at hb
 |t::ts,.box _ _::_,hb,_,_,_,_,_=>by simp [Kx] at hb
 |t::ts,.bL _::_,hb,_,_,_,_,_=>by simp [Kx] at hb
 |t::ts,.val agg os::ps,hp,vs,ds,p,bQ,hA=>by
  obtain ⟨v,vs',d,ds',p',q',rfl,rfl,rfl,h1,h2⟩:=trodAll_cons hA;unfold Kx at hp;rw [Bool.and_eq_true,Bool.and_eq_true,Bool.and_eq_true,Bool.and_eq_true] at hp;obtain ⟨_,_,b3,b4,b5⟩:=hp;exact trodAll_cons_mk (Below.trod hl b3 (Nat.le_of_ble_eq_true b4) h1 hb (fun x hx=>bQ x (List.mem_append_left _ hx))) (GG hl hb ts ps b5 vs' ds' q' (fun x hx=>bQ x (List.mem_append_right _ hx)) h2)
theorem Om {H:Type} {enc:TypeId×Value→H} {P:Program} (hl:laidOutB P=true) {f:FuncId} {ps:List AP} {s:Nat} {t:aw (aK (ps.map some))→Option (aw (cN [{ src:=.tmp s,agg:=false,ps:=[.bool] }] (bC ps)))}
  (hk:np P f (kO ps [{ src:=.tmp s,agg:=false,ps:=[.bool] }] t)) {ts:List TypeId} (Qm:Kx P ts ps=true) (ahB:∀x,CQ (aK (ps.map some)) x→∃y,t x=some y∧y.1=true)
  {W:World} {base:Nat} {args:Array Value} {ds:List (DataW H)} {p:List MemPlace} (pH:∀(j:Nat) t v,ts[j]?=some t→args[j]?=some v→Value.okWide P W .any base t v)
  (hA:DataW.TrodAll enc P W 0 (fun _=>true) true ts args.toList ds p) (bQ:∀x∈p,x.block<W.heap.size) :
  Calls P f args W fun e W'=>e=.returned (.bool true)∧Below W.heap.size W W'∧DataW.TrodAll enc P W' 0 (fun b=>decide (b<W.heap.size)) true ts args.toList ds p:=by
 obtain ⟨x,da,h1,h2,h3⟩:=GF (lc:=fun _ _=>.nil) ts ps Qm 0 args.toList ds p (fun j t v ht hv=>⟨base,pH j t v ht (by rwa [Array.getElem?_toList] at hv)⟩) hA;obtain ⟨y,hy,hy1⟩:=ahB x h3
 let μ:Mu:={ m:=fun _=>False,ok:=fun _=>True,an:=[],rs:=fun _=>False }
 have hH:Handed Cz.free W μ:={
  m:=fun b=>⟨fun h=>h.elim,fun ⟨l,h,_⟩=>by cases h⟩
  ok:=fun b=>⟨fun _=>rfl,fun _=>trivial⟩
  lt:=fun b l h=>by cases h
  lb:=fun b l h=>by cases h
  rs:=fun b l h=>by cases h }
 have hs:kO ps [{ src:=.tmp s,agg:=false,ps:=[.bool] }] t da=some { r:=cN [{ src:=.tmp s,agg:=false,ps:=[.bool] }] (bC ps),o:=t x,res:=fun y=>{ outs:=(fJ [{ src:=.tmp s,agg:=false,ps:=[.bool] }] (bC ps) y).1,exts:=mE ps (fJ [{ src:=.tmp s,agg:=false,ps:=[.bool] }] (bC ps) y).2 } }:=by
  unfold kO;rw [h1]
 refine (hk.ok Cz.free W μ (fun _ _=>.nil) da args _ y hH h2 hs hy).mono fun e W' ⟨v,he,c',hb,hV,_⟩ => ?_
 have ab6:Below W.heap.size W W':=⟨hb.kept.1,hb.kept.2.1,hb.kept.2.2.1,hb.kept.2.2.2,fun k hk=>hb.old k hk (fun h=>h.elim)⟩;have hv:v=.bool true:=by
  have hV:qm c' W' [.one (.bool y.1)] v:=hV;rcases hV with ⟨r,e1,g⟩ | ⟨g,_⟩
  ·simp only [List.cons.injEq,and_true] at e1;subst e1;obtain ⟨v',l,e2,g2,_⟩:=g;simp only [List.cons.injEq] at e2;obtain ⟨e2,_⟩:=e2;obtain ⟨l',g3,_⟩:=g2;simp only [List.cons.injEq] at g3;rw [e2,g3.1,hy1]
  ·simp at g
 exact ⟨by rw [he,hv],ab6,GG hl ab6 ts ps Qm args.toList ds p bQ hA⟩
theorem du {a:Int} (h1 : -9223372036854775808≤a) (h2:a<9223372036854775808):IntKind.i64.wrap a=a:=by
 rw [IntKind.wrap_i64];omega
theorem wf_i64 {n:Int} (h:(Lit.int .i64 n).wf=true) : -9223372036854775808≤n∧n<9223372036854775808:=by
 simp only [Lit.wf,Bool.and_eq_true,decide_eq_true_eq] at h;have h1:IntKind.i64.min = -9223372036854775808:=rfl;have h2:IntKind.i64.max=9223372036854775807:=rfl;omega
theorem tQ {X E:Type} {round:X→Option (Sum X E)} {n:Nat} (st:Nat→X) (g:Nat→Option E) (HN:∃e,round (st n)=some (.inr e)∧g n=some e)
  (vU:∀k,k<n→(∃e,round (st k)=some (.inr e)∧g k=some e)∨(round (st k)=some (.inl (st (k+1)))∧g k=g (k+1))):∀k,k≤n→aG round (st k)=g k:=by
 have key:∀d k,k+d=n→aG round (st k)=g k:=by
  intro d
  induction d with
  |zero=>
   intro k hk;have:k=n:=by omega
   subst this;obtain ⟨e,h1,h2⟩:=HN;rw [iL,h1,h2]
  |succ d ih=>
   intro k hk;rcases vU k (by omega) with ⟨e,h1,h2⟩ | ⟨h1,h2⟩
   ·rw [iL,h1,h2]
   ·rw [iL,h1,h2];exact ih (k+1) (by omega)
 intro k hk;exact key (n-k) k (by omega)
theorem bD {X E:Type} {round:X→Option (Sum X E)} (n:Nat) (st:Nat→X) {e:E} (HN:round (st n)=some (.inr e))
  (vU:∀k,k<n→round (st k)=some (.inl (st (k+1)))):aG round (st 0)=some e:=
 tQ st (fun _=>some e) ⟨e,HN,rfl⟩ (fun k hk=>.inr ⟨vU k hk,rfl⟩) 0 (Nat.zero_le _)
theorem dw {X E:Type} {round:X→Option (Sum X E)} (n:Nat) (I:Nat→X→Prop) (Q:E→Prop) (HN:∀x,I n x→∃e,round x=some (.inr e)∧Q e)
  (vU:∀k x,k<n→I k x→(∃e,round x=some (.inr e)∧Q e)∨(∃y,round x=some (.inl y)∧I (k+1) y)) {x:X} (h:I 0 x):∃e,aG round x=some e∧Q e:=by
 have key:∀d k x,k+d=n→I k x→∃e,aG round x=some e∧Q e:=by
  intro d
  induction d with
  |zero=>
   intro k x hk hI;have:k=n:=by omega
   subst this;obtain ⟨e,h1,h2⟩:=HN x hI;exact ⟨e,by rw [iL,h1],h2⟩
  |succ d ih=>
   intro k x hk hI;rcases vU k x (by omega) hI with ⟨e,h1,h2⟩ | ⟨y,h1,h2⟩
   ·exact ⟨e,by rw [iL,h1],h2⟩
   ·obtain ⟨e,h3,h4⟩:=ih (k+1) y (by omega) h2;exact ⟨e,by rw [iL,h1];exact h3,h4⟩
 exact key n 0 x (by omega) h
theorem dZ {A B C:Type} {a:A} {f:A→Option C} {g:B→Option C}:bO (some (.inl a)) f g=f a:=rfl
theorem af {p:Prop} [Decidable p] (h:p):decide p=true:=decide_eq_true h
theorem ai {p:Prop} [Decidable p] (h:¬p):decide p=false:=decide_eq_false h
theorem az (k:Nat):Int.toNat ((k:Nat):Int)=k:=rfl
theorem cS {a b:Nat} (h:a<b):Nat.blt a b=true:=Nat.ble_eq_true_of_le h
theorem aJ {a b:Nat} (h:a≤b):Nat.ble a b=true:=Nat.ble_eq_true_of_le h
theorem ak (k:Nat):decide ((0:Int)≤((k:Nat):Int))=true:=af (by omega)
theorem ax {k n:Nat} (h:k<n):decide (((k:Nat):Int)<((n:Nat):Int))=true:=af (by omega)
theorem aC (n:Nat):decide (((n:Nat):Int)<((n:Nat):Int))=false:=ai (by omega)
theorem aE {k:Nat} (h:k<4611686018427387904):IntKind.i64.wrap (((k:Nat):Int)+(1:Int))=(((k+1:Nat)):Int):=by
 rw [du]<;>omega
theorem Ev (bs:ByteArray):∀(d i:Nat) (r:List UInt8),bs.size-i=d→ByteArray.toList.loop bs i r=r.reverse++bs.data.toList.drop i
 |0,i,r,h=>by
  unfold ByteArray.toList.loop;rw [if_neg (by omega)];have:bs.data.toList.drop i=[]:=List.drop_of_length_le (by
   have:bs.data.toList.length=bs.size:=Array.length_toList;omega)
  rw [this,List.append_nil]
 |d+1,i,r,h=>by
  unfold ByteArray.toList.loop;have bQ:i<bs.size:=by omega
  rw [if_pos bQ,Ev bs d (i+1) _ (by omega)];have ahC:i<bs.data.toList.length:=by
   have:bs.data.toList.length=bs.size:=Array.length_toList;omega
  rw [List.reverse_cons,List.append_assoc,List.drop_eq_getElem_cons ahC]
  congr 2
  simp [ByteArray.get!,bQ]
theorem Ew (bs:ByteArray):bs.toList=bs.data.toList:=by
 unfold ByteArray.toList;rw [Ev bs _ 0 [] rfl];simp
theorem GH {a b:ByteArray}:kM a b=true↔a=b:=by
 unfold kM;rw [beq_iff_eq]
 constructor
 ·intro h;rw [Ew,Ew] at h;obtain ⟨⟨x⟩⟩:=a;obtain ⟨⟨y⟩⟩:=b;exact congrArg (fun l=>ByteArray.mk ⟨l⟩) h
 ·intro h;rw [h]
theorem bS (a:ByteArray):kM a a=true:=GH.2 rfl
theorem JG {α:Type} (a:List α) (z:α) {k:Nat} (hk:k<a.length):List.set (a.take k++List.replicate (a.length-k) z) k a[k]=a.take (k+1)++List.replicate (a.length-(k+1)) z:=by
 have h1:(a.take k).length=k:=by simp;omega
 have h2:a.length-k=(a.length-(k+1))+1:=by omega
 rw [List.set_append,if_neg (by omega),h1,Nat.sub_self,h2,List.replicate_succ,List.set_cons_zero,List.take_succ_eq_append_getElem hk,List.append_assoc];rfl
def wl {α:Type} (f:α→Nat) (xs:List α):Nat:=xs.foldr (fun x n=>f x+n) 0
theorem WB {α:Type} (f:α→Nat):wl f []=0:=rfl
theorem sO {α:Type} (f:α→Nat) (x:α) (xs:List α):wl f (x::xs)=f x+wl f xs:=rfl
theorem Ey {α:Type} (f:α→Nat) (xs ys:List α):wl f (xs++ys)=wl f xs+wl f ys:=by
 induction xs with
 |nil=>simp [wl]
 |cons x xs ih=>
  show f x+wl f (xs++ys)=f x+wl f xs+wl f ys;rw [ih];omega
theorem Dy {α:Type} (f:α→Nat) (xs:List α) {k:Nat} (hk:k<xs.length):wl f (xs.take (k+1))=wl f (xs.take k)+f xs[k]:=by
 rw [List.take_succ_eq_append_getElem hk,Ey];rfl
theorem uM {α:Type} (f:α→Nat) (xs:List α):∀x∈xs,f x≤wl f xs:=by
 induction xs with
 |nil=>intro x h;cases h
 |cons y xs ih=>
  intro x h;show f x≤f y+wl f xs;rcases List.mem_cons.1 h with rfl | h
  ·omega
  ·have:=ih x h;omega
theorem ns {α:Type} (f:α→Nat) (h:∀x,f x=0) (xs:List α):wl f xs=0:=by
 induction xs with
 |nil=>rfl
 |cons y xs ih=>show f y+wl f xs=0;rw [h,ih]
theorem Re {r:RT} {xs:List (aw r)} (h:AQ (.sl r) xs):xs.length≤9223372036854775807:=(Tt.1 h).1
theorem Vg {r:RT} {xs:List (aw r)} (h:AQ (.sl r) xs):∀x∈xs,CQ r x:=(Tt.1 h).2
theorem WC {s:ByteArray} (h:AQ .str s):ByteArray.size s≤9223372036854775807:=Vf.1 h
theorem BT {n:Int} (h:AQ (.int .i64) n) : -9223372036854775808≤n∧n<9223372036854775808:=wf_i64 (Ve.1 h)
def Left (o:Option (Int×Unit)) (wt:Nat) (left:Int):Prop:=∃m,o=some (m,()) ∧ -1≤m∧(0≤m→(wt:Int)+m≤left)
theorem nt {X Y E F:Type} {r1:X→Option (Sum X E)} {r2:Y→Option (Sum Y F)} (n:Nat) (R:Nat→X→Y→Prop) (Q:E→F→Prop)
  (vU:∀k x y,k≤n→R k x y→(∃e f,r1 x=some (.inr e)∧r2 y=some (.inr f)∧Q e f)∨(k<n∧∃x' y',r1 x=some (.inl x')∧r2 y=some (.inl y')∧R (k+1) x' y')) {x:X} {y:Y} (h:R 0 x y) :
  ∃e f,aG r1 x=some e∧aG r2 y=some f∧Q e f:=by
 have key:∀d k x y,k+d=n→R k x y→∃e f,aG r1 x=some e∧aG r2 y=some f∧Q e f:=by
  intro d
  induction d with
  |zero=>
   intro k x y hk hR;rcases vU k x y (by omega) hR with ⟨e,f,h1,h2,h3⟩ | ⟨bQ,_⟩
   ·exact ⟨e,f,by rw [iL,h1],by rw [iL,h2],h3⟩
   ·omega
  |succ d ih=>
   intro k x y hk hR;rcases vU k x y (by omega) hR with ⟨e,f,h1,h2,h3⟩ | ⟨_,x',y',h1,h2,h3⟩
   ·exact ⟨e,f,by rw [iL,h1],by rw [iL,h2],h3⟩
   ·obtain ⟨e,f,g1,g2,g3⟩:=ih (k+1) x' y' (by omega) h3;exact ⟨e,f,by rw [iL,h1];exact g1,by rw [iL,h2];exact g2,g3⟩
 exact key n 0 x y (by omega) h
end Go.TM
namespace Go.TM
open Go Go.RowKit
def qW (P:Program):Nat→RT→List Field→Bool
 |_,.nil,[]=>true
 |off,.cons t r,f::fs=>Nat.beq f.offset off&&((f.name != "_")&&(P.plainKey f.type&&(JC P f.type t&&qW P (off+1) r fs)))
 |_,_,_=>false
def BU (P:Program) (t:TypeId) (r:RT):Bool:=
 match P.underlying t with
 |some (.struct fs) => !P.stoodInHeld t&&(!P.eqGuardType P.depth t&&qW P 0 r fs.toList)
 |_=>false
def Vh (P:Program) (t:Nat) (r:Rec):Bool := !r.eq||(match r.row with | some q=>BU P t q | none=>false)
theorem Lg {P:Program} {c:Cz} {st:St} {w w':World} {t:TypeId} {ty:Ty} {d:Nat} {a b:CV} {x y:Value} {r:Bool} {q:RT} {l:List CV} (hk:JC P t ty=true) (hf:rb (.cons ty q) (a::l)=true) (h:ui a b=some r) (hx:iI c st w a x) (hy:iI c st w b y) :
  (Op.equalIn (d+1) t x y).run P w'=.ok r w'∧rb q l=true:=by
 cases ty with
 |sl _=>cases a<;>simp [rb] at hf
 |int k=>
  obtain ⟨e,he,h2⟩:=fK hk
  cases a<;>try (simp [rb] at hf;done)
  rename_i k1 n;simp only [rb,Bool.and_eq_true,decide_eq_true_eq] at hf
  cases b<;>try (simp [ui] at h;done)
  rename_i k2 m;simp only [ui] at h
  split at h
  ·rename_i SL;subst SL
   cases h
   cases e<;>simp at h2
   have hx:x=.int k1 n:=hx;have hy:y=.int k1 m:=hy;subst hx hy;refine ⟨?_,hf.2⟩;rw [run_equalIn_int w' d t k1 _ n m he]
   congr 1
  ·cases h
 |bool=>
  obtain ⟨e,he,h2⟩:=fK hk
  cases a<;>try (simp [rb] at hf;done)
  cases b<;>try (simp [ui] at h;done)
  rename_i p q';simp only [ui,Option.some.injEq] at h;subst h
  cases e<;>simp at h2
  have hx:x=.bool p:=hx;have hy:y=.bool q':=hy;subst hx hy;exact ⟨run_equalIn_bool' w' d t p q' he,hf⟩
 |str=>
  obtain ⟨e,he,h2⟩:=fK hk
  cases a<;>try (simp [rb] at hf;done)
  cases b<;>try (simp [ui] at h;done)
  rename_i p q';simp only [ui,Option.some.injEq] at h;subst h
  cases e<;>simp at h2
  have hx:x=.string p:=hx;have hy:y=.string q':=hy;subst hx hy;exact ⟨run_equalIn_string w' d t p q' he,hf⟩
theorem AR {P:Program} {c:Cz} {st:St} {w w':World} {d:Nat} {us vs:Array Value}:(fs:List Field)→(off:Nat)→(q:RT)→(l m:List CV)→{b:Bool}→qW P off q fs=true→rb q l=true→nc l m=some b→
  fo c st w l (us.toList.drop off)→fo c st w m (vs.toList.drop off)→(Op.eqFields (d+1) us vs fs).run P w'=.ok b w'
 | [],off,q,l,m,b,hf,pC,hc,hl,hm=>by
  cases q with
  |cons t r=>cases t<;>simp [qW] at hf
  |nil=>
   cases l with
   |cons _ _=>simp [rb] at pC
   |nil=>cases m with
    |cons _ _=>simp [nc] at hc
    |nil=>
     simp only [nc,Option.some.injEq] at hc;subst hc;simp [Op.eqFields]
 |f::fs,off,q,l,m,b,hf,pC,hc,hl,hm=>by
  cases q with
  |nil=>simp [qW] at hf
  |cons t r=>
   unfold qW at hf;rw [Bool.and_eq_true,Bool.and_eq_true,Bool.and_eq_true,Bool.and_eq_true] at hf;obtain ⟨h1,h2,h3,h4,h5⟩:=hf;have h1:=Nat.eq_of_beq_eq_true h1
   cases l with
   |nil=>cases t<;>simp [rb] at pC
   |cons x l=>cases m with
    |nil=>simp [nc] at hc
    |cons y m=>
     simp only [nc] at hc
     cases he:ui x y with
     |none=>simp [he] at hc
     |some b1=>
      cases hes:nc l m with
      |none=>simp [he,hes] at hc
      |some b2=>
       simp only [he,hes,Option.some.injEq] at hc;subst hc;have Dg:off<us.size:=by
        have:=hl.1;simp at this;omega
       have wq:off<vs.size:=by
        have:=hm.1;simp at this;omega
       have hdu:us.toList.drop off=us[off]::us.toList.drop (off+1):=by
        have:off<us.toList.length:=by simpa using Dg
        rw [List.drop_eq_getElem_cons this];simp
       have hdv:vs.toList.drop off=vs[off]::vs.toList.drop (off+1):=by
        have:off<vs.toList.length:=by simpa using wq
        rw [List.drop_eq_getElem_cons this];simp
       rw [hdu] at hl;rw [hdv] at hm;have rx:=hl.2 0 x us[off] rfl rfl;have ry:=hm.2 0 y vs[off] rfl rfl;obtain ⟨k1,k2⟩:=Lg (w':=w') (d:=d) h4 pC he rx ry;have rl:fo c st w l (us.toList.drop (off+1)):=⟨by have:=hl.1;simpa using this,fun i a v ha hv=>hl.2 (i+1) a v (by simpa using ha) (by simpa using hv)⟩;have rm:fo c st w m (vs.toList.drop (off+1)):=⟨by have:=hm.1;simpa using this,fun i a v ha hv=>hm.2 (i+1) a v (by simpa using ha) (by simpa using hv)⟩;have ih:=AR (w':=w') (d:=d) fs (off+1) r l m h5 k2 hes rl rm;unfold Op.eqFields;rw [if_pos (by simpa using h2)];have p1:(part f.type us f.offset).run P w'=.ok us[off] w':=run_part_plain w' h3 (by rw [h1];exact Array.getElem?_eq_getElem Dg);have p2:(part f.type vs f.offset).run P w'=.ok vs[off] w':=run_part_plain w' h3 (by rw [h1];exact Array.getElem?_eq_getElem wq);simp only [Sem.run_bind,p1,p2,k1,Result.andThen_ok]
       cases b1
       ·simp
       ·simp [ih]
theorem Lh {P:Program} {tr:Tr} (h:tr.all (Vh P)=true):yQ P (n4 tr):=by
 intro t ht c st w l m us vs b op ox oy pC hc hl hm w';have ht:(match tr.find t with | some r=>r.eq | none=>false)=true:=ht
 cases hf:tr.find t with
 |none=>rw [hf] at ht;cases ht
 |some r=>
  rw [hf] at ht;have ht:r.eq=true:=ht;have h1:=Tr.AM tr h hf;unfold Vh at h1;rw [ht,Bool.not_true,Bool.false_or] at h1;unfold kK.fits at pC;have dt:(n4 tr).row t=r.row:=by show (match tr.find t with | some r=>r.row | none=>none)=_;rw [hf]
  rw [dt] at pC
  cases hq:r.row with
  |none=>rw [hq] at h1;cases h1
  |some q=>
   rw [hq] at h1 pC;have h1:BU P t q=true:=h1;have pC:rb q l=true:=pC;unfold BU at h1
   split at h1
   ·rename_i fs hu;rw [Bool.and_eq_true,Bool.and_eq_true,Bool.not_eq_true',Bool.not_eq_true'] at h1;have hfo:P.fieldsOf t=fs:=by unfold Program.fieldsOf;rw [hu]
    refine ⟨run_eqGuard_agg w' op t ox oy us vs h1.2.1,?_⟩;show (Op.equalIn (9999+1) t (.agg us) (.agg vs)).run P w'=.ok b w';rw [run_equalIn_struct w' 9999 t us vs (by rw [hfo];exact hu) h1.1,hfo];exact AR (d:=9998) fs.toList 0 q l m h1.2.2 pC hc (by simpa using hl) (by simpa using hm)
   ·cases h1
end Go.TM
namespace Go.TM
open Go Go.RowKit
def JH (n:Nat) (ps:List AP) (x:aw (aK (ps.map some))):St:=aZ (start n ps x) (some 0) (.one .dN)
def M3 (n:Nat) (r:RT) (xs:List (aw r)) (ps:List AP) (x:aw (aK (ps.map some))):St:=aZ (start n ps x) (some 0) (.one (.nn r xs))
theorem JI {P:Program} {tr:Tr} (hT:tr.all (AN P)=true) (hE:yQ P (n4 tr)) (hm:P.follows .mixedOrders=true) {S:kV} (hS:od P S) {D:mJ} {f:FuncId} {fn:Func} {code:Code} {n:Nat} {r:RT} {qs:List AP} {rs:List RP}
  {L:qk (aw (cN rs (bC (.val false [.shr r]::qs))))} {t:aw (aK ((AP.val false [.shr r]::qs).map some))→Option (aw (cN rs (bC (.val false [.shr r]::qs))))}
  (hf:P.funcs[f]?=some fn) (hb:fn.body=some code) (tf:fnB (n4 tr) D fn code n (.val false [.shr r]::qs) rs=true) (Rc:(fn.name == "runtime.NumGoroutine")=false)
  (hL:∀(w0:World) (mu:Mu) (y:aw (cN rs (bC (.val false [.shr r]::qs)))),lF (.val false [.shr r]::qs) mu→∀p∈ed code,oa P w0 mu n L y p.1 p.2)
  (Rf:∀z,fj (n4 tr) S D L code (JH n (.val false [.shr r]::qs) (([]:List (aw r)),z)) (FB rs (.val false [.shr r]::qs))=t (([]:List (aw r)),z))
  (hnn:∀x,fj (n4 tr) S D L code (M3 n r x.1 (.val false [.shr r]::qs) x) (FB rs (.val false [.shr r]::qs))=t x):np P f (kO (.val false [.shr r]::qs) rs t):=by
 unfold fnB at tf;rw [Bool.and_eq_true,Bool.and_eq_true,Bool.and_eq_true,Bool.and_eq_true] at tf;obtain ⟨h1,h2,h3,h4,h5⟩:=tf;refine ⟨Jw (ti hT) hE hS hf hb (Nat.eq_of_beq_eq_true h1) (Nat.le_of_ble_eq_true h2) h3 (fun tm=>Dx tm _ _ h4) (fun w0 mu y hs=>uL code (hL w0 mu y hs))
  (fun w0 mu=>BR (ti hT) hE hm (AF (ti hT) hE hS w0 mu n)) (wX code h5) (fun w0 mu c a w x hR hn => ?_),fn,hf,Rc,by rw [hb];rfl⟩
 have QL:0<n:=by
  have:=Nat.le_of_ble_eq_true h2;simp at this;omega
 have tK:=hR.dO 0;have hg:bI (start n (.val false [.shr r]::qs) x) 0=.one (.shr r x.1):=rfl;rw [hg] at tK;have DO:bN w c.ok (.sl r) (a.eval (.tmp 0)) x.1:=tK;have h0:0<a.tmps.size:=by omega
 by_cases hv:a.eval (.tmp 0)=.slice none 0 0
 ·refine ⟨c,JH n (.val false [.shr r]::qs) x,?_,?_⟩
  ·have:=hR.aZ (d:=some 0) (v:=.one .dN) (u:=a.eval (.tmp 0)) hv (fun k e=>by cases e;exact h0)
   rwa [D3 a 0 _ h0 rfl] at this
  ·have hx:x.1=([]:List (aw r)):=by
    rcases (ni _ _ _ _ _).1 DO with ⟨_,h⟩ | ⟨_,_,h,_⟩
    ·exact h
    ·rw [hv] at h;cases h
   obtain ⟨x1,z⟩:=x;simp only at hx;subst hx;exact Rf z
 ·refine ⟨c,M3 n r x.1 (.val false [.shr r]::qs) x,?_,hnn x⟩;have:=hR.aZ (d:=some 0) (v:=.one (.nn r x.1)) (u:=a.eval (.tmp 0)) ⟨DO,hv⟩ (fun k e=>by cases e;exact h0)
  rwa [D3 a 0 _ h0 rfl] at this
end Go.TM
namespace Go.TM
open Go Go.RowKit
section
variable {R:Type} (T:kK) (S:kV) (D:mJ) (L:qk R)
end
def ab7 {R:Type} (P:Program) (w0:World) (mu:Mu) (n:Nat) (k:Ex→St→Option R) (r:R) (b:Code) (hp:List (Option AP)) (g:aw (aK hp)→Option R):Prop:=
 ∀x,g x=some r→∀ {Q:Exit→Act→World→Prop},Qs w0 mu n r k Q→∀ {c:Cz} {a:Act} {w:World},Rel w0 mu c (wU hp x) a w→a.tmps.size=n→b.wp P Q a w
structure Seg (tr:Tr) (S:kV) (D:mJ) (n:Nat) (ps:List AP) {R:Type} (L:qk R) (k:Ex→St→Option R) (P:Program) (b:Code) (hp:List (Option AP)) (g:aw (aK hp)→Option R):Prop where
 ok:∀(w0:World) (mu:Mu) (r:R),lF ps mu→jm n b=true→fI (fun id ops=>Eo ops (D id)=true) b→fp (oa P w0 mu n L r) b→ab7 P w0 mu n k r b hp g
end Go.TM
namespace Go.TM
open Go Go.RowKit
noncomputable section
structure TK (P:Program) where
 tr:Tr
 hT:tr.all (AN P)=true
 hE:yQ P (n4 tr)
 hm:P.follows .mixedOrders=true
structure KF (P:Program) where
 f:FuncId
 m:Pm×Pm×Pm
 zY:ug
 ok:np P f zY
def KF.sl {P:Program} (k:KF P):Nat×(Pm×Pm×Pm×ug):=(k.f,(k.m.1,k.m.2.1,k.m.2.2,k.zY))
def WD {P:Program}:List (KF P)→Wy
 | []=>[]
 |k::l=>k.sl::WD l
theorem M4 {P:Program}:(l:List (KF P))→od P (yY (WD l))
 | []=>Rb
 |k::l=>Oi k.ok (M4 l)
def kw {P:Program} {f:FuncId} {s:ug} (h:np P f s):KF P:=⟨f,(.shr,.shr,.shr),s,h⟩
def kv {P:Program} (m:Pm×Pm×Pm) {f:FuncId} {s:ug} (h:np P f s):KF P:=⟨f,m,s,h⟩
structure LD where
 i:Nat
 b:Code
 hp:List (Option AP)
 e:List (Option AP)
 q:List (Option AP)
 r:aw (aK hp)→Option (Sum (aw (aK hp)) (Sum (aw (aK e)) (aw (aK q))))
 al:List (Nat×Nat×Nat)
def LD.Ok (l:LD) (P:Program) (n:Nat) (ps:List AP):Prop:=
 ∀ {R:Type} (L:qk R) (y:R) (w0:World) (mu:Mu),(∀st k,L l.i l.b st k=BQ l.al l.hp l.e l.q l.r st k)→lF ps mu→oa P w0 mu n L y l.i l.b
structure WE (P:Program) (n:Nat) (ps:List AP) where
 d:LD
 ok:d.Ok P n ps
def sP {P:Program} {n:Nat} {ps:List AP} {R:Type}:List (WE P n ps)→qk R
 | []=>noL
 |l::ls=>fun id b st k=>bif Nat.beq id l.d.i then BQ l.d.al l.d.hp l.d.e l.d.q l.d.r st k else sP ls id b st k
def GI {P:Program} {n:Nat} {ps:List AP}:List (WE P n ps)→List (Nat×Code)
 | []=>[]
 |l::ls=>(l.d.i,l.d.b)::GI ls
def Li {P:Program} {n:Nat} {ps:List AP}:List (WE P n ps)→Bool
 | []=>true
 |l::ls=>ls.all (fun m => !Nat.beq m.d.i l.d.i)&&Li ls
theorem Rg {P:Program} {n:Nat} {ps:List AP} {R:Type}:(ls:List (WE P n ps))→Li ls=true→∀l∈ls,∀st (k:Ex→St→Option R),sP ls l.d.i l.d.b st k=BQ l.d.al l.d.hp l.d.e l.d.q l.d.r st k
 | [],_,l,h=>by cases h
 |m::ls,hb,l,h=>by
  intro st k;unfold Li at hb;rw [Bool.and_eq_true] at hb;rcases List.mem_cons.1 h with rfl | h
  ·show (bif Nat.beq l.d.i l.d.i then _ else _)=_;rw [Nat.beq_refl];rfl
  ·show (bif Nat.beq l.d.i m.d.i then _ else sP ls l.d.i l.d.b st k)=_;have:=List.all_eq_true.1 hb.1 l h;rw [Bool.not_eq_true'] at this;rw [this];exact Rg ls hb.2 l h st k
theorem M5 {P:Program} {n:Nat} {ps:List AP}:(ls:List (WE P n ps))→∀p∈GI ls,∃l∈ls,p=(l.d.i,l.d.b)
 | [],p,h=>by cases h
 |m::ls,p,h=>by
  rcases List.mem_cons.1 h with rfl | h
  ·exact ⟨m,List.mem_cons_self,rfl⟩
  ·obtain ⟨l,h1,h2⟩:=M5 ls p h;exact ⟨l,List.mem_cons_of_mem _ h1,h2⟩
theorem Lj {P:Program} {n:Nat} {ps:List AP} {R:Type} {ls:List (WE P n ps)} (hb:Li ls=true) {c:Code} (hc:ed c=GI ls) (y:R) (w0:World) (mu:Mu) (hs:lF ps mu):∀p∈ed c,oa P w0 mu n (sP ls) y p.1 p.2:=by
 rw [hc];intro p hp;obtain ⟨l,hl,rfl⟩:=M5 ls p hp;exact l.ok (sP ls) y w0 mu (Rg ls hb l hl) hs
structure FC (P:Program) where
 t:TK P
 l:List (KF P)
 D:mJ
 fn:Func
 ps:List AP
abbrev FC.code {P:Program} (F:FC P):Code:=Ra F.fn
abbrev FC.S {P:Program} (F:FC P):kV:=yY (WD F.l)
abbrev FC.T {P:Program} (F:FC P):kK:=n4 F.t.tr
abbrev FC.KL {P:Program} (F:FC P):Type:=WE P F.fn.ntmps F.ps
abbrev FC.Ok {P:Program} (F:FC P) (l:LD):Prop:=l.Ok P F.fn.ntmps F.ps
abbrev FC.fin {P:Program} (F:FC P) (rs:List RP):Ex→St→Option (aw (cN rs (bC F.ps))):=FB rs F.ps
def FC.lp {P:Program} (F:FC P) (j:Nat):Code:=HL F.code j
theorem FC.kl {P:Program} (F:FC P) {l:LD} (ls:List F.KL) (h1:(GB F.D F.ps l.hp l.e l.q F.fn.ntmps l.b&&Li ls)=true) (h2:ed l.b=GI ls)
  (ht:∀x,fj F.T F.S F.D (sP ls) l.b (sL l.al l.hp x) (BP l.al l.i l.hp l.e l.q)=l.r x):F.Ok l:=by
 rw [Bool.and_eq_true] at h1;exact fun _ _ w0 mu hL hs=>Oj F.t.hT F.t.hE F.t.hm (M4 F.l) hs h1.1 (fun z=>Lj h1.2 h2 z w0 mu hs) ht hL
theorem FC.lD {P:Program} (F:FC P) {l:LD} (h:∀x,(GB F.D F.ps l.hp l.e l.q F.fn.ntmps l.b&&(ed l.b).isEmpty,fj F.T F.S F.D noL l.b (sL l.al l.hp x) (BP l.al l.i l.hp l.e l.q))=(true,l.r x)):F.Ok l:=by
 have h1:=congrArg Prod.fst (h (qh _));have h1:(GB F.D F.ps l.hp l.e l.q F.fn.ntmps l.b&&(ed l.b).isEmpty)=true:=h1;rw [Bool.and_eq_true] at h1;have ht:∀x,fj F.T F.S F.D noL l.b (sL l.al l.hp x) (BP l.al l.i l.hp l.e l.q)=l.r x:=fun x=>congrArg Prod.snd (h x)
 have g:F.Ok l:=F.kl [] (by rw [h1.1];rfl) (List.isEmpty_iff.1 h1.2) ht;exact @g
abbrev FC.ahE {P:Program} (F:FC P) (rs:List RP) (t:Vc (aK (F.ps.map some)) (Option (aw (cN rs (bC F.ps))))):ug:=kO F.ps rs (IB (aK (F.ps.map some)) t)
abbrev FC.Kn {P:Program} (F:FC P) (rs:List RP) (f:FuncId) (t:Vc (aK (F.ps.map some)) (Option (aw (cN rs (bC F.ps))))):Prop:=np P f (F.ahE rs t)
def FC.WG {P:Program} (F:FC P) (rs:List RP):Bool:=F.fn.body.isSome&&(fnB F.T F.D F.fn F.code F.fn.ntmps F.ps rs && !(F.fn.name == "runtime.NumGoroutine"))
theorem FC.Rh {P:Program} {F:FC P} {rs:List RP} (h:F.WG rs=true):F.fn.body=some F.code∧fnB F.T F.D F.fn F.code F.fn.ntmps F.ps rs=true∧(F.fn.name == "runtime.NumGoroutine")=false:=by
 unfold FC.WG at h;rw [Bool.and_eq_true,Bool.and_eq_true,Bool.not_eq_true'] at h;obtain ⟨h1,h2,h3⟩:=h;refine ⟨?_,h2,h3⟩;obtain ⟨c,hc⟩:=Option.isSome_iff_exists.1 h1;unfold FC.code Ra;rw [hc]
theorem FC.kf {P:Program} (F:FC P) {rs:List RP} {f:FuncId} {t:Vc (aK (F.ps.map some)) (Option (aw (cN rs (bC F.ps))))} (ls:List F.KL) (hf:P.funcs[f]?=some F.fn) (h1:(F.WG rs&&Li ls)=true) (h2:ed F.code=GI ls)
  (ht:∀x,fj F.T F.S F.D (sP ls) F.code (start F.fn.ntmps F.ps x) (F.fin rs)=IB (aK (F.ps.map some)) t x):F.Kn rs f t:=by
 rw [Bool.and_eq_true] at h1;obtain ⟨hb,hc,hn⟩:=F.Rh h1.1;exact Tq F.t.hT F.t.hE F.t.hm (M4 F.l) (D:=F.D) (L:=sP ls) hf hb hc hn (fun w0 mu y hs=>Lj h1.2 h2 y w0 mu hs) ht
theorem FC.na {P:Program} (F:FC P) {rs:List RP} {f:FuncId} {t:Vc (aK (F.ps.map some)) (Option (aw (cN rs (bC F.ps))))} (hf:P.funcs[f]?=some F.fn)
  (h:∀x,(F.WG rs&&(ed F.code).isEmpty,fj F.T F.S F.D noL F.code (start F.fn.ntmps F.ps x) (F.fin rs))=(true,IB (aK (F.ps.map some)) t x)):F.Kn rs f t:=by
 have h1:=congrArg Prod.fst (h (qh _));have h1:(F.WG rs&&(ed F.code).isEmpty)=true:=h1;rw [Bool.and_eq_true] at h1;exact F.kf [] hf (by rw [h1.1];rfl) (List.isEmpty_iff.1 h1.2) fun x=>congrArg Prod.snd (h x)
theorem FC.kf1 {P:Program} (F:FC P) {rs:List RP} {f:FuncId} {t:Vc (aK (F.ps.map some)) (Option (aw (cN rs (bC F.ps))))} (hf:P.funcs[f]?=some F.fn) (h1:(F.WG rs&&(ed F.code).isEmpty)=true)
  (ht:∀x,fj F.T F.S F.D noL F.code (start F.fn.ntmps F.ps x) (F.fin rs)=IB (aK (F.ps.map some)) t x):F.Kn rs f t:=by
 rw [Bool.and_eq_true] at h1;exact F.kf [] hf (by rw [h1.1];rfl) (List.isEmpty_iff.1 h1.2) ht
theorem FC.kl1 {P:Program} (F:FC P) {l:LD} (h1:(GB F.D F.ps l.hp l.e l.q F.fn.ntmps l.b&&(ed l.b).isEmpty)=true)
  (ht:∀x,fj F.T F.S F.D noL l.b (sL l.al l.hp x) (BP l.al l.i l.hp l.e l.q)=l.r x):F.Ok l:=by
 rw [Bool.and_eq_true] at h1;have g:F.Ok l:=F.kl [] (by rw [h1.1];rfl) (List.isEmpty_iff.1 h1.2) ht;exact @g
theorem FC.kfn {P:Program} (F:FC P) {rs:List RP} {f:FuncId} {t:Vc (aK (F.ps.map some)) (Option (aw (cN rs (bC F.ps))))} (ls:List F.KL) (hf:P.funcs[f]?=some F.fn) (r:RT) (qs:List AP) (hq:F.ps=.val false [.shr r]::qs) (h1:(F.WG rs&&Li ls)=true) (h2:ed F.code=GI ls)
  (h4:∀x,fj F.T F.S F.D (sP ls) F.code (aZ (start F.fn.ntmps F.ps (hq▸(([]:List (aw r)),x))) (some 0) (.one .dN)) (F.fin rs)=IB (aK (F.ps.map some)) t (hq▸(([]:List (aw r)),x)))
  (h5:∀x,fj F.T F.S F.D (sP ls) F.code (aZ (start F.fn.ntmps F.ps (hq▸x)) (some 0) (.one (.nn r x.1))) (F.fin rs)=IB (aK (F.ps.map some)) t (hq▸x)):F.Kn rs f t:=by
 rw [Bool.and_eq_true] at h1;obtain ⟨hb,hc,hn⟩:=F.Rh h1.1;obtain ⟨tt,l,D,fn,ps⟩:=F;simp only at hq;subst hq;exact JI tt.hT tt.hE tt.hm (M4 l) (D:=D) (L:=sP ls) hf hb hc hn (fun w0 mu y hs=>Lj h1.2 h2 y w0 mu hs) h4 h5
def sp:List (Nat×AP)→Nat→List (Option AP)
 | [],k=>nn k
 |(g,p)::l,k=>nn g++some p::sp l k
abbrev vl (l:List OP):AP:=.val false l
abbrev va (l:List OP):AP:=.val true l
abbrev Pl.a (i:Nat) (p:Pl):Pl:=.op i .any p
abbrev Pl.t (i:Nat) (p:Pl):Pl:=.op i .take p
abbrev Pl.o (i:Nat) (p:Pl):Pl:=.op i .one p
abbrev Pl.l (i:Nat) (p:Pl):Pl:=.op i .last p
def dr (i:Nat) (p:Pl) (D:mJ:=iM):mJ:=fun id=>bif Nat.beq id i then p else D id
end
end Go.TM
namespace Go.TM
open Go Go.RowKit
noncomputable section
end
end Go.TM
namespace Go.TM
open Go Go.RowKit
def fT.hv (A:fT):fT:=bif A.md.is .lz then { A with md:=.dp } else A
def OV.hv:OV→OV
 |.own A=>.own A.hv
 |o=>o
def RV.hv:RV→RV
 |.one o=>.one o.hv
 |.agg os=>.agg (os.map OV.hv)
 |.ptr os=>.ptr (os.map OV.hv)
def OP.GJ:OP→Bool
 |.own _ _=>false
 |_=>true
def AP.vals:AP→Bool
 |.val _ qs=>qs.all OP.GJ
 |_=>false
def OV.GJ:OV→Bool
 |.own _=>false
 |_=>true
def AV.vals:AV→Bool
 |.val _ os=>os.all OV.GJ
 |_=>false
theorem AS:(ps:List OP)→(t:RT)→(os:List OV)→(y:aw t)→{x:aw (lR ps t)}→cL ps t os y=some x→ps.all OP.GJ=true→os.all OV.GJ=true
 | [],_,[],_,_,_,_=>rfl
 | [],_,_::_,_,_,h,_=>by simp [cL] at h
 |_::_,_,[],_,_,h,_=>by simp [cL] at h
 |p::ps,t,o::os,y,x,h,hn=>by
  unfold cL at h;rw [List.all_cons,Bool.and_eq_true] at hn
  cases h1:qo p o with
  |none=>simp [h1] at h
  |some a=>
   cases h2:cL ps t os y with
   |none=>simp [h1,h2] at h
   |some z=>
    rw [List.all_cons,AS ps t os y h2 hn.2,Bool.and_true]
    cases p with
    |own _ _=>cases hn.1
    |_=>cases o<;>first | rfl | cases h1
theorem CS:(ps:List AP)→(da:List AV)→{x:aw (aK (ps.map some))}→dY ps da=some x→ps.all AP.vals=true→da.all AV.vals=true
 | [],[],_,_,_=>rfl
 | [],_::_,_,h,_=>by simp [dY] at h
 |_::_,[],_,h,_=>by simp [dY] at h
 |p::ps,a::as,x,h,hn=>by
  rw [List.all_cons,Bool.and_eq_true] at hn;unfold dY at h
  cases hy:dY ps as with
  |none=>simp [hy] at h
  |some y=>
   simp only [hy] at h;rw [List.all_cons,CS ps as hy hn.2,Bool.and_true]
   cases p with
   |val ag qs=>cases a with
    |val ag' os=>
     cases ag<;>cases ag'<;>first | exact AS _ _ _ _ h hn.1 | cases h
    |_=>cases ag<;>cases h
   |_=>cases hn.1
theorem a7.Dk {c c0:Cz} (hc:c0.own=c.own) {w:World} {f:Nat→Lb}:(os:List OV)→(j:Nat)→(vs:List Value)→os.all OV.GJ=true→a7 c w f j os vs→a7 c0 w f j os vs
 | [],_,_,_,h=>h
 |o::os,j,vs,hn,h=>by
  rw [List.all_cons,Bool.and_eq_true] at hn;have ok:∀b,c.ok b→c0.ok b:=fun b h=>by unfold Cz.ok at *;rw [hc];exact h
  have st:ij w w c.ok c0.ok:=⟨Nat.le_refl _,fun _ _ _=>rfl,fun b _ h=>ok b h⟩
  cases o with
  |int k n=>obtain ⟨l,h1,h2⟩:=h;exact ⟨l,h1,a7.Dk hc os _ _ hn.2 h2⟩
  |bool b=>obtain ⟨l,h1,h2⟩:=h;exact ⟨l,h1,a7.Dk hc os _ _ hn.2 h2⟩
  |str b=>obtain ⟨l,h1,h2⟩:=h;exact ⟨l,h1,a7.Dk hc os _ _ hn.2 h2⟩
  |dN=>obtain ⟨l,h1,h2⟩:=h;exact ⟨l,h1,a7.Dk hc os _ _ hn.2 h2⟩
  |shr r xs=>obtain ⟨v,l,h1,h2,h3⟩:=h;exact ⟨v,l,h1,bN.stays st _ _ _ h2,a7.Dk hc os _ _ hn.2 h3⟩
  |lC r xs=>obtain ⟨v,l,h1,h2,h3⟩:=h;exact ⟨v,l,h1,h2.stays st,a7.Dk hc os _ _ hn.2 h3⟩
  |fn g rs xs=>obtain ⟨v,l,h1,h2,h3⟩:=h;exact ⟨v,l,h1,h2.stays st,a7.Dk hc os _ _ hn.2 h3⟩
  |own A=>cases hn.1
theorem ob.Dk {c c0:Cz} (hc:c0.own=c.own) {w:World} {lc:Nat→Nat→Loc}:(da:List AV)→(i:Nat)→(vs:List Value)→da.all AV.vals=true→ob c w lc i da vs→ob c0 w lc i da vs
 | [],_,_,_,h=>h
 |a::as,i,vs,hn,h=>by
  rw [List.all_cons,Bool.and_eq_true] at hn;obtain ⟨v,l,h1,h2,h3⟩:=h;refine ⟨v,l,h1,?_,ob.Dk hc as _ _ hn.2 h3⟩
  cases a with
  |val ag os=>
   cases ag
   ·exact a7.Dk hc os 0 _ hn.1 h2
   ·obtain ⟨us,e,h4⟩:=h2;exact ⟨us,e,a7.Dk hc os 0 _ hn.1 h4⟩
  |_=>cases hn.1
theorem gI.vals {c c0:Cz} {w:World} {lc:Nat→Nat→Loc}:(da:List AV)→(i:Nat)→(vs:List Value)→(xs:List XV)→da.all AV.vals=true→gI c w lc i da vs xs→gI c0 w lc i da vs xs
 | [],_,_,_,_,h=>h
 |_::_,_,[],_,_,h=>h.elim
 |a::as,i,v::vs,xs,hn,h=>by
  rw [List.all_cons,Bool.and_eq_true] at hn
  cases a with
  |val ag os=>exact gI.vals as (i+1) vs xs hn.2 h
  |_=>cases hn.1
noncomputable def Cz.hv (c:Cz):Cz:=
 { bx:=c.bx,lc:=c.lc,own:=fun k=>have:=Classical.propDecidable (c.own k=none∧∃j,c.rs k=some (.eF j));if c.own k=none∧∃j,c.rs k=some (.eF j) then c.rs k else c.own k }
theorem Cz.Ez {c:Cz} {k:Nat} {l:Lb} (h:c.own k=some l):c.hv.own k=some l:=by
 unfold Cz.hv;simp only;rw [if_neg (by rw [h];simp)];exact h
theorem Cz.Vi {c:Cz} {k j:Nat} (h:c.own k=none) (hr:c.rs k=some (.eF j)):c.hv.own k=some (.eF j):=by
 unfold Cz.hv;simp only;rw [if_pos ⟨h,j,hr⟩];exact hr
theorem OwnAt.hv {c:Cz} {w:World} {j:Nat} {lc:Loc} {A:fT} {v:Value} (hp:(!A.r.dM||(A.md.is .dp||A.md.is .lz))=true) (h:OwnAt c w (.eF j) lc A v):OwnAt c.hv w (.eF j) lc A.hv v:=by
 unfold fT.hv
 cases hz:A.md.is .lz with
 |false=>
  show OwnAt c.hv w (.eF j) lc A v;unfold OwnAt at h ⊢;obtain ⟨h1,h2,h3,h4⟩:=h;refine ⟨h1,h2,h3,?_⟩
  cases lc with
  |nil=>exact h4
  |«at» b off cap=>
   obtain ⟨g1,g2,g3,g4⟩:=h4;refine ⟨Cz.Ez g1,g2,g3,?_⟩
   by_cases Ix:A.md=.sh
   ·have Ob:A.r.dM=false:=by
     rw [Ix] at hp;simpa [Md.is] using hp
    exact (bh.sh Ix).2 fun i x hx=>cI.plain _ _ _ _ Ob ((bh.sh Ix).1 g4 i x hx)
   ·exact g4.go (fun hm=>absurd hm Ix) rfl (fun _ k hk=>⟨rfl,Cz.Ez hk⟩) (fun hm=>by rw [hm] at hz;cases hz)
 |true=>
  have hm:=Md.iW.1 hz;show OwnAt c.hv w (.eF j) lc { A with md:=.dp } v;unfold OwnAt at h ⊢;obtain ⟨h1,h2,h3,h4⟩:=h;refine ⟨h1,h2,h3,?_⟩
  cases lc with
  |nil=>exact h4
  |«at» b off cap=>
   obtain ⟨g1,g2,g3,g4⟩:=h4;refine ⟨Cz.Ez g1,g2,g3,?_⟩;unfold bh at g4 ⊢;rw [hm] at g4;obtain ⟨g,g4⟩:=g4;refine ⟨fun k=>if k=b then [] else g k,by simp,fun i x hx=>eZ.go _ [i] [i] (fun q k hk=>⟨rfl,Cz.Vi hk.1.1 hk.1.2.1,?_⟩) _ _ _ x rfl (g4 i x hx)⟩;have SM:k≠b:=by
    rintro rfl
    have:=hk.1.1;rw [g1] at this
    cases this
   show (if k=b then [] else g k)=_;rw [if_neg SM];exact hk.2
theorem a7.hv {c:Cz} {w:World}:(os:List OV)→os.all OV.plain=true→(j:Nat)→(vs:List Value)→a7 c w .eF j os vs→a7 c.hv w .eF j (os.map OV.hv) vs
 | [],_,_,_,h=>h
 |.int k n::os,ho,j,vs,h=>by
  rw [List.all_cons,Bool.and_eq_true] at ho;obtain ⟨l,h1,h2⟩:=h;exact ⟨l,h1,a7.hv os ho.2 (j+1) l h2⟩
 |.bool k::os,ho,j,vs,h=>by
  rw [List.all_cons,Bool.and_eq_true] at ho;obtain ⟨l,h1,h2⟩:=h;exact ⟨l,h1,a7.hv os ho.2 (j+1) l h2⟩
 |.str k::os,ho,j,vs,h=>by
  rw [List.all_cons,Bool.and_eq_true] at ho;obtain ⟨l,h1,h2⟩:=h;exact ⟨l,h1,a7.hv os ho.2 (j+1) l h2⟩
 |.dN::os,ho,j,vs,h=>by
  rw [List.all_cons,Bool.and_eq_true] at ho;obtain ⟨l,h1,h2⟩:=h;exact ⟨l,h1,a7.hv os ho.2 (j+1) l h2⟩
 |.shr r xs::os,ho,j,vs,h=>by
  rw [List.all_cons,Bool.and_eq_true] at ho
  cases ho.1
 |.lC r xs::os,ho,j,vs,h=>by
  rw [List.all_cons,Bool.and_eq_true] at ho
  cases ho.1
 |.fn g rs xs::os,ho,j,vs,h=>by
  rw [List.all_cons,Bool.and_eq_true] at ho
  cases ho.1
 |.own A::os,ho,j,vs,h=>by
  rw [List.all_cons,Bool.and_eq_true] at ho;obtain ⟨v,l,h1,⟨lc,h2⟩,h3⟩:=h;exact ⟨v,l,h1,⟨lc,h2.hv ho.1⟩,a7.hv os ho.2 (j+1) l h3⟩
theorem ik.hv {c:Cz} {w:World}:(rs:List RV)→rs.all (fun o=>o.tv.all OV.plain)=true→(j:Nat)→(vs:List Value)→ik c w j rs vs→ik c.hv w j (rs.map RV.hv) vs
 | [],_,_,_,h=>h
 |.one o::rs,ho,j,vs,h=>by
  rw [List.all_cons,Bool.and_eq_true] at ho;obtain ⟨v,l,h1,h2,h3⟩:=h;exact ⟨v,l,h1,a7.hv [o] ho.1 _ _ h2,ik.hv rs ho.2 _ _ h3⟩
 |.agg os::rs,ho,j,vs,h=>by
  rw [List.all_cons,Bool.and_eq_true] at ho;obtain ⟨v,l,h1,h2,h3⟩:=h;refine ⟨v,l,h1,a7.hv os ho.1 _ _ h2,?_⟩;rw [List.length_map];exact ik.hv rs ho.2 _ _ h3
 |.ptr os::rs,ho,j,vs,h=>by
  rw [List.all_cons,Bool.and_eq_true] at ho;obtain ⟨v,l,h1,⟨mK,us,ty,g1,g2,g3,g4⟩,h3⟩:=h;have ho1:=ho.1;simp only [RV.tv,List.all_cons,Bool.and_eq_true] at ho1;refine ⟨v,l,h1,⟨mK,us,ty,g1,Cz.Ez g2,g3,a7.hv os ho1.2 _ _ g4⟩,?_⟩;rw [List.length_map];exact ik.hv rs ho.2 _ _ h3
theorem qm.hv {c:Cz} {w:World} {rs:List RV} (ho:rs.all (fun o=>o.tv.all OV.plain)=true) {v:Value} (h:qm c w rs v):qm c.hv w (rs.map RV.hv) v:=by
 rcases h with ⟨r,h1,h2⟩ | ⟨h1,vs,h2,h3⟩
 ·subst h1;exact .inl ⟨r.hv,rfl,ik.hv _ ho _ _ h2⟩
 ·refine .inr ⟨by rw [List.length_map];exact h1,vs,h2,ik.hv _ ho _ _ h3⟩
def VS.hv (A:VS):VS:={ r:=A.r,o:=A.o,res:=fun x=>{ outs:=(A.res x).outs.map RV.hv,exts:=(A.res x).exts } }
theorem Tu {P:Program} {f:FuncId} {zY Tp:ug} (h:FnOk P f zY) (hs:∀da A,Tp da=some A→da.all AV.vals=true∧∃B,zY da=some B∧A=B.hv∧∀x,(B.res x).outs.all (fun o=>o.tv.all OV.plain)=true):FnOk P f Tp:=by
 intro c w mu lc da args A x hh ha hA hx;obtain ⟨hv,B,hB,rfl,Ix⟩:=hs da A hA
 let c0:Cz:={ bx:=c.bx,lc:=c.lc,own:=c.own }
 let mu0:Mu:={ m:=mu.m,ok:=mu.ok,an:=mu.an }
 have ha':ob c0 w lc 0 da args.toList:=ob.Dk (c:=c) (c0:=c0) rfl da 0 _ hv ha;have hh':Handed c0 w mu0:=⟨hh.m,hh.ok,hh.lt,hh.lb,fun b l (e:none=some l)=>by cases e⟩;intro cs;obtain ⟨e,w',fr,hq,hcm⟩:=h c0 w mu0 lc da args B x hh' ha' hB hx cs;refine ⟨e,w',fr,?_,hcm⟩;obtain ⟨v,h1,c',hb,hV,hX⟩:=hq;refine ⟨v,h1,c'.hv,⟨fun b l hl => ?_,fun b K5 Jg => ?_,hb.kept,hb.old,fun b l hl=>by cases hl⟩,hV.hv (Ix x),gI.vals da 0 _ _ hv hX⟩
 ·by_cases hq:c'.own b=none∧∃j,c'.rs b=some (.eF j)
  ·obtain ⟨Td,j,Iw⟩:=hq;rw [Cz.Vi Td Iw] at hl;obtain ⟨h2,h3⟩:=hb.lS b _ Iw;refine ⟨h2,.inr ?_⟩;rcases h3 with h3 | h3 | h3
   ·exact .inl h3
   ·exact .inr h3
   ·exact h3.elim
  ·have e:c'.hv.own b=c'.own b:=by unfold Cz.hv;simp only;rw [if_neg hq]
   rw [e] at hl;exact hb.owned b l hl
 ·have:c'.own b=none:=by
   cases ho:c'.own b with
   |none=>rfl
   |some l=>rw [Cz.Ez ho] at Jg;cases Jg
  exact hb.free b K5 this
theorem Ri {P:Program} {f:FuncId} {ps:List AP} {rs rs':List RP} {t:aw (aK (ps.map some))→Option (aw (cN rs (bC ps)))} {t':aw (aK (ps.map some))→Option (aw (cN rs' (bC ps)))}
  (h:np P f (kO ps rs t)) (Qm:ps.all AP.vals=true) (Ix:∀y,((fJ rs (bC ps) y).1).all (fun o=>o.tv.all OV.plain)=true)
  (he:∀x,({ r:=cN rs' (bC ps),o:=t' x,res:=fun y=>{ outs:=(fJ rs' (bC ps) y).1,exts:=mE ps (fJ rs' (bC ps) y).2 } }:VS)=VS.hv { r:=cN rs (bC ps),o:=t x,res:=fun y=>{ outs:=(fJ rs (bC ps) y).1,exts:=mE ps (fJ rs (bC ps) y).2 } }):np P f (kO ps rs' t'):=by
 refine ⟨Tu h.ok fun da A hA => ?_,h.fn⟩;unfold kO at hA ⊢
 cases hc:dY ps da with
 |none=>rw [hc] at hA;cases hA
 |some x=>
  rw [hc] at hA;injection hA with hA;exact ⟨CS ps da hc Qm,_,rfl,hA▸he x,Ix⟩
end Go.TM
