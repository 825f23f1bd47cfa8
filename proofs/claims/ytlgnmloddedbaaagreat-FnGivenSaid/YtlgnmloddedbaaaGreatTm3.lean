/- A machine over trees: an evaluator of the code, and that what it finds is so; part 3. -/
import Derived.Test.YtlgnmloddedbaaaGreatTm2
import Derived.Laws.Sem
import Derived.Deep.LoopGhost
import Derived.OrdersHeld
import Derived.KernelRfl
import Derived.Carry
import Derived.ChangeArms
import Derived.ChangeOld
import Derived.OpenShut
import Derived.Laws.StructEq
import Derived.ChangeKeysEq
set_option linter.unusedSimpArgs false
set_option linter.unusedVariables false
namespace Go.TM
open Go Go.RowKit
inductive Src where
 |tmp (t:Nat)
 |cell (t:Nat)
 |ptr (t:Nat)  -- TG struct behind a pointer,awK is om back
structure RP where
 src:Src
 agg:Bool
 ps:List OP
def eE:List RP→RT→RT
 | [],t=>t
 |r::rs,t=>pZ r.ps (eE rs t)
def wg:List OP→RT→RT
 | [],t=>t
 |.own r _::ps,t=>.cons (.sl r) (wg ps t)
 |.int _::ps,t=>wg ps t
 |.bool::ps,t=>wg ps t
 |.str::ps,t=>wg ps t
 |.shr _::ps,t=>wg ps t
 |.oe _::ps,t=>wg ps t
 |.fn _ _::ps,t=>wg ps t
def cU:List AP→RT
 | []=>.nil
 |.val _ _::l=>cU l
 |.io r _::l=>.cons (.sl r) (cU l)
 |.box _ ps::l=>pZ ps (cU l)
 |.dX ps::l=>wg ps (cU l)
def RP.cells (st:St) (r:RP):Option (List CV):=
 match r.src with
 |.tmp t=>match dR st t with
  |.agg cs=>bif r.agg then some cs else none
  |.one c=>bif r.agg then none else some [c]
  |.rb _=>none
 |.cell t=>match dR st t with
  |.one (.ptr b g off)=>bif Nat.beq off 0 then gi st b g else none
  |_=>none
 |.ptr t=>match dR st t with
  |.one (.ptr b g off)=>bif Nat.beq off 0 then gi st b g else none
  |_=>none
def RP.lab (st:St) (r:RP):List (Option Lb):=
 match r.src with
 |.ptr t=>(match dR st t with | .one (.ptr b _ _)=>[some (.box b)] | _=>[])
 |_=>[]
def Ij (st:St):(rs:List RP)→(t:RT)→aO t→Option (aO (eE rs t)×List (Option Lb)×List (Nat×Nat))
 | [],_,y=>some (y,[],[])
 |r::rs,t,y=>(r.cells st).bind fun cs=>(Ij st rs t y).bind fun q=>(ou st r.ps (eE rs t) cs q.1).map fun p=>(p.1,r.lab st++(p.2.1++q.2.1),p.2.2++q.2.2)
def p5 (st:St) (i:Nat):(j:Nat)→(ps:List OP)→(t:RT)→aO t→Option (aO (wg ps t)×List Lb)
 |_,[],_,y=>some (y,[])
 |j,.own r d::ps,t,y=>(p5 st i (j+1) ps t y).bind fun q=>(cT st i j 1).bind fun A=>bif A.own&&A.md.is d then (ek r A.xs).map fun xs=>((xs,q.1),.sp i j::q.2) else none
 |j,.int _::ps,t,y=>p5 st i (j+1) ps t y
 |j,.bool::ps,t,y=>p5 st i (j+1) ps t y
 |j,.str::ps,t,y=>p5 st i (j+1) ps t y
 |j,.shr _::ps,t,y=>p5 st i (j+1) ps t y
 |j,.oe _::ps,t,y=>p5 st i (j+1) ps t y
 |j,.fn _ _::ps,t,y=>p5 st i (j+1) ps t y
def xP (st:St):(i:Nat)→(ps:List AP)→Option (aO (cU ps)×List Lb×List (Nat×Nat))
 |_,[]=>some ((),[],[])
 |i,.val _ _::l=>xP st (i+1) l
 |i,.io r d::l=>(xP st (i+1) l).bind fun q=>(GC st i (.io r d) (cU l) (.one (.ref i 0 1 .full)) q.1).map fun p=>(p.1,p.2.1++q.2.1,p.2.2++q.2.2)
 |i,.box _ ps::l=>(xP st (i+1) l).bind fun q=>(GC st i (.box true ps) (cU l) (.one (.ptr i 1 0)) q.1).map fun p=>(p.1,p.2.1++q.2.1,p.2.2++q.2.2)
 |i,.dX ps::l=>(xP st (i+1) l).bind fun q=>(p5 st i 0 ps (cU l) q.1).map fun p=>(p.1,p.2++q.2.1,q.2.2)
def FE (rs:List RP) (ps:List AP):Ex→St→Option (aO (eE rs (cU ps)))
 |.exit _,_=>none
 |_,st=>(xP st 0 ps).bind fun x=>(Ij st rs (cU ps) x.1).bind fun q=>bif yP (dS q.2.1++x.2.1)&&apart (dS q.2.1++x.2.1) (q.2.2++x.2.2) then some q.1 else none
def RP.rv (r:RP) (os:List OV):RV:=
 match r.src with
 |.ptr _=>.ptr os
 |_=>match r.agg,os with
  |false,[o]=>.one o
  |_,os=>.agg os
def jg:(rs:List RP)→(t:RT)→aO (eE rs t)→List RV×aO t
 | [],_,x=>([],x)
 |r::rs,t,x=>(r.rv (fT r.ps (eE rs t) x).1::(jg rs t (fT r.ps (eE rs t) x).2).1,(jg rs t (fT r.ps (eE rs t) x).2).2)
def qP:(ps:List OP)→(t:RT)→aO (wg ps t)→List (Option nY)×aO t
 | [],_,x=>([],x)
 |.own r d::ps,t,x=>(some { r:=r,own:=true,xs:=x.1,md:=d }::(qP ps t x.2).1,(qP ps t x.2).2)
 |.int _::ps,t,x=>(none::(qP ps t x).1,(qP ps t x).2)
 |.bool::ps,t,x=>(none::(qP ps t x).1,(qP ps t x).2)
 |.str::ps,t,x=>(none::(qP ps t x).1,(qP ps t x).2)
 |.shr _::ps,t,x=>(none::(qP ps t x).1,(qP ps t x).2)
 |.oe _::ps,t,x=>(none::(qP ps t x).1,(qP ps t x).2)
 |.fn _ _::ps,t,x=>(none::(qP ps t x).1,(qP ps t x).2)
def qy:(ps:List AP)→aO (cU ps)→List XV
 | [],_=>[]
 |.val _ _::l,x=>qy l x
 |.io r d::l,x=>.io { r:=r,own:=true,xs:=x.1,md:=d }::qy l x.2
 |.box _ ps::l,x=>.box (fT ps (cU l) x).1::qy l (fT ps (cU l) x).2
 |.dX ps::l,x=>.dX (qP ps (cU l) x).1::qy l (qP ps (cU l) x).2
def ow (ps:List AP) (rs:List RP) (t:aO (aM (ps.map some))→Option (aO (eE rs (cU ps)))):AS:=fun gq=>
 match iE ps gq with
 |some x=>some { r:=eE rs (cU ps),o:=t x,res:=fun y=>{ outs:=(jg rs (cU ps) y).1,exts:=qy ps (jg rs (cU ps) y).2 } }
 |none=>none
theorem mr {st:St} {i:Nat}:(ps:List OP)→(j:Nat)→(t:RT)→(y:aO t)→{x:aO (wg ps t)}→{u:List Lb}→p5 st i j ps t y=some (x,u)→(qP ps t x).2=y∧(∀l∈u,∃k,l=.sp i k)∧
  ∀(k:Nat) (r:RT) (d:Md),ps[k]?=some (.own r d)→∃A xs,cT st i (j+k) 1=some A∧A.own=true∧A.md=d∧ek r A.xs=some xs∧nth (qP ps t x).1 k=some (some { r:=r,own:=true,xs:=xs,md:=d })∧.sp i (j+k)∈u
 | [],j,t,y,x,u,h=>by
  injection h with h;injection h with e1 e2;subst e1 e2;exact ⟨rfl,by simp,fun k r d hk=>by simp at hk⟩
 |.own r d::ps,j,t,y,x,u,h=>by
  unfold p5 at h;obtain ⟨q,hq,h⟩:=Option.bind_eq_some_iff.1 h;obtain ⟨A,hA,h⟩:=Option.bind_eq_some_iff.1 h;obtain ⟨ho,h⟩:=bM h;rw [Bool.and_eq_true] at ho;obtain ⟨xs,hxs,h⟩:=Option.map_eq_some_iff.1 h;injection h with e1 e2;subst e1 e2;obtain ⟨z,us⟩:=q;obtain ⟨g1,g2,g3⟩:=mr ps (j+1) t y hq;refine ⟨g1,fun l hl => ?_,fun k r' d' hk => ?_⟩
  ·rcases List.mem_cons.1 hl with rfl | hl
   ·exact ⟨j,rfl⟩
   ·exact g2 l hl
  ·cases k with
   |zero=>
    simp only [List.getElem?_cons_zero,Option.some.injEq,OP.own.injEq] at hk;obtain ⟨rfl,_⟩:=hk;exact ⟨A,xs,hA,ho.1,Md.xJ.1 ho.2,hxs,rfl,List.mem_cons_self⟩
   |succ k=>
    obtain ⟨A',xs',k1,k2,kd,k3,k4,k5⟩:=g3 k r' d' (by simpa using hk);rw [show j+1+k=j+(k+1) by omega] at k1 k5;exact ⟨A',xs',k1,k2,kd,k3,k4,List.mem_cons_of_mem _ k5⟩
 |.int _::ps,j,t,y,x,u,h=>nr (mr ps (j+1) t y h) (by simp) (fun k=>rfl)
 |.bool::ps,j,t,y,x,u,h=>nr (mr ps (j+1) t y h) (by simp) (fun k=>rfl)
 |.str::ps,j,t,y,x,u,h=>nr (mr ps (j+1) t y h) (by simp) (fun k=>rfl)
 |.shr _::ps,j,t,y,x,u,h=>nr (mr ps (j+1) t y h) (by simp) (fun k=>rfl)
 |.oe _::ps,j,t,y,x,u,h=>nr (mr ps (j+1) t y h) (by simp) (fun k=>rfl)
 |.fn _ _::ps,j,t,y,x,u,h=>nr (mr ps (j+1) t y h) (by simp) (fun k=>rfl)
where
 nr {st:St} {i j:Nat} {p:OP} {ps:List OP} {D:Type} {y z:D} {L L':List (Option nY)} {u:List Lb} (h:z=y∧(∀l∈u,∃k,l=.sp i k)∧∀(k:Nat) (r:RT) (d:Md),ps[k]?=some (.own r d)→∃A xs,cT st i (j+1+k) 1=some A∧A.own=true∧A.md=d∧ek r A.xs=some xs∧nth L k=some (some { r:=r,own:=true,xs:=xs,md:=d })∧.sp i (j+1+k)∈u)
   (hp:∀r d,p≠.own r d) (hL:∀k,nth L' (k+1)=nth L k):z=y∧(∀l∈u,∃k,l=.sp i k)∧∀(k:Nat) (r:RT) (d:Md),(p::ps)[k]?=some (.own r d)→∃A xs,cT st i (j+k) 1=some A∧A.own=true∧A.md=d∧ek r A.xs=some xs∧nth L' k=some (some { r:=r,own:=true,xs:=xs,md:=d })∧.sp i (j+k)∈u:=by
  obtain ⟨h1,h2,h3⟩:=h;refine ⟨h1,h2,fun k r d hk => ?_⟩
  cases k with
  |zero=>
   simp only [List.getElem?_cons_zero,Option.some.injEq] at hk;exact absurd hk (hp r d)
  |succ k=>
   obtain ⟨A',xs',k1,k2,kd,k3,k4,k5⟩:=h3 k r d (by simpa using hk);rw [show j+1+k=j+(k+1) by omega] at k1 k5;exact ⟨A',xs',k1,k2,kd,k3,by rw [hL];exact k4,k5⟩
theorem Lo {st:St}:(ps:List OP)→(t:RT)→(cs:List CV)→(y:aO t)→{x:aO (pZ ps t)}→{u:List (Option Lb)}→{r:List (Nat×Nat)}→ou st ps t cs y=some (x,u,r)→u.length=ps.length∧cs.length=ps.length∧(fT ps t x).1.length=ps.length
 | [],t,[],y,x,u,r,h=>by
  injection h with h;injection h with e1 e2;injection e2 with e2 e3;subst e1 e2 e3;exact ⟨rfl,rfl,rfl⟩
 | [],t,_::_,y,x,u,r,h=>by simp [ou] at h
 |_::_,t,[],y,x,u,r,h=>by simp [ou] at h
 |p::ps,t,c::cs,y,x,u,r,h=>by
  unfold ou at h
  cases hc:lK st p.sg c with
  |none=>simp [hc] at h
  |some q1=>
   obtain ⟨o,u1,r1⟩:=q1
   cases hq:ou st ps t cs y with
   |none=>simp [hc,hq] at h
   |some q2=>
    obtain ⟨z,us,rs⟩:=q2;simp only [hc,hq] at h
    cases ho:we p o with
    |none=>simp [ho] at h
    |some a1=>
     simp only [ho] at h;injection h with h;injection h with e1 e2;injection e2 with e2 e3;subst e1 e2 e3;obtain ⟨g1,g2,g3⟩:=Lo ps t cs y hq;exact ⟨by simp [g1],by simp [g2],by simp [fT,g3]⟩
def Xj (T:pA) (fr:Array Value):ResultVar→RP→Prop
 |.tmp t,r=>r.src=.tmp t∨r.src=.ptr t
 |.cell t ty,r=>r.src=.cell t∧T.cells ty=some r.ps.length∧T.agg ty=r.agg
def Ik (tm:Array Value):ResultVar→Sem Value
 |.tmp t=>pure (tm.getD t undef)
 |.cell a t=>do loadVar t (←asAddr (tm.getD a undef))
theorem RP.Xk {P:Program} {T:pA} (hT:j7 P T) {w0:World} {mu:Mu} {c:Cz} {st:St} {a:Act} {w:World} (h:Rel w0 mu c st a w) {r:RP} {rv:ResultVar} (hr:Xj T a.tmps rv r) {cs:List CV} (hc:r.cells st=some cs) (hn:cs.length=r.ps.length) :
  ∃vs v,jf c st w cs vs∧(Ik a.tmps rv).run P w=.ok v w∧(((∀t,r.src≠.ptr t)∧((r.agg=true∧v=.agg vs.toArray)∨(r.agg=false∧(vs=[v]))))∨
   (∃t b ty us,r.src=.ptr t∧r.lab st=[some (.box b)]∧v=.pointer (some ⟨c.bx b,0,none⟩)∧c.own (c.bx b)=some (.box b)∧w.heap[c.bx b]?=some (.cells us ty (0,0))∧vs=us.toList)):=by
 unfold RP.cells at hc
 cases rv with
 |tmp t=>
  rcases (hr:r.src=.tmp t∨r.src=.ptr t) with hs | hs
  case inr=>
   rw [hs] at hc;have yi:=h.jy t;simp only at hc
   cases hv:dR st t with
   |rb _=>rw [hv] at hc;cases hc
   |agg l=>rw [hv] at hc;cases hc
   |one x=>
    cases x with
    |ptr b g off=>
     rw [hv] at hc yi;obtain ⟨ho,hb⟩:=bM hc;have ho:=Nat.eq_of_beq_eq_true ho;subst ho;obtain ⟨sl,k1,k2,k3⟩:=ko hb;obtain ⟨q1,vs,ty',q2,q3⟩:=h.boxes b sl cs k1 k3;have e:a.tmps.getD t undef=.pointer (some ⟨c.bx b,0,none⟩):=yi.2.2 cs hb;refine ⟨vs.toList,a.tmps.getD t undef,q3,rfl,.inr ⟨t,b,ty',vs,hs,?_,e,q1,q2,rfl⟩⟩;unfold RP.lab;rw [hs];simp only [hv]
    |_=>rw [hv] at hc;cases hc
  rw [hs] at hc;have yi:=h.jy t;simp only at hc
  cases hv:dR st t with
  |rb _=>rw [hv] at hc;cases hc
  |agg l=>
   rw [hv] at hc yi;obtain ⟨SF,hc1⟩:=bM hc
   cases hc1
   obtain ⟨vs,e,hl⟩:=yi;exact ⟨vs.toList,a.eval (.tmp t),hl,rfl,.inl ⟨fun t' e'=>(by rw [hs] at e';cases e'),.inl ⟨SF,by rw [e]⟩⟩⟩
  |one x=>
   rw [hv] at hc yi;simp only at hc
   cases SF:r.agg with
   |true=>rw [SF] at hc;cases hc
   |false=>
    rw [SF] at hc
    cases hc
    refine ⟨[a.eval (.tmp t)],a.eval (.tmp t),⟨rfl,fun i y z hy hz => ?_⟩,rfl,.inl ⟨fun t' e'=>(by rw [hs] at e';cases e'),.inr ⟨rfl,rfl⟩⟩⟩
    cases i with
    |zero=>simp at hy hz;subst hy hz;exact yi
    |succ i=>simp at hy
 |cell t ty=>
  obtain ⟨hs,h1,h2⟩:=hr;rw [hs] at hc;have yi:=h.jy t;simp only at hc
  cases hv:dR st t with
  |rb _=>rw [hv] at hc;cases hc
  |agg l=>rw [hv] at hc;cases hc
  |one x=>
   cases x with
   |ptr b g off=>
    rw [hv] at hc yi;obtain ⟨ho,hb⟩:=bM hc;have ho:=Nat.eq_of_beq_eq_true ho;subst ho;obtain ⟨sl,k1,k2,k3⟩:=ko hb;obtain ⟨q1,vs,ty',q2,q3⟩:=h.boxes b sl cs k1 k3;have e:a.tmps.getD t undef=.pointer (some ⟨c.bx b,0,none⟩):=yi.2.2 cs hb;have adi:w.rangeAt (c.bx b) 0 vs.toList:=by
     have:=Gr (off:=0) q2 vs.toList.length
     rwa [List.drop_zero,List.take_length] at this
    have hlen:vs.toList.length=r.ps.length:=by rw [←q3.1,hn]
    have vY:=xl (P:=P) hT h1 w (c.bx b) 0 vs.toList adi hlen;refine ⟨vs.toList,valOf (T.agg ty) vs.toList,q3,?_,.inl ⟨fun t' e'=>(by rw [hs] at e';cases e'),?_⟩⟩
    ·simp [Ik,e,asAddr,Sem.run_bind,vY]
    ·rw [h2]
     cases SF:r.agg with
     |true=>exact .inl ⟨rfl,by simp [valOf]⟩
     |false=>
      obtain ⟨_,_,_,N6⟩:=hT.agg ty _ h1;have h3:=N6 (by rw [h2,SF]);refine .inr ⟨rfl,?_⟩;have:vs.toList.length=1:=by rw [hlen,h3]
      cases Hd:vs.toList with
      |nil=>rw [Hd] at this;cases this
      |cons x l=>cases l with
       |nil=>rfl
       |cons _ _=>rw [Hd] at this;simp at this
   |_=>rw [hv] at hc;cases hc
end Go.TM
namespace Go.TM
open Go Go.RowKit
def Dh (T:pA) (tm:Array Value):List ResultVar→List RP→Prop
 | [],[]=>True
 |v::vs,r::rs=>Xj T tm v r∧Dh T tm vs rs
 |_,_=>False
theorem Lp {P:Program} {T:pA} (hT:j7 P T) {w0:World} {mu:Mu} {c:Cz} {st:St} {a:Act} {w:World} (h:Rel w0 mu c st a w):(rvs:List ResultVar)→(rs:List RP)→Dh T a.tmps rvs rs→(t:RT)→(y:aO t)→{x:aO (eE rs t)}→{u:List (Option Lb)}→{r:List (Nat×Nat)}→Ij st rs t y=some (x,u,r)→
  (jg rs t x).2=y∧(jg rs t x).1.length=rs.length∧(∀l∈dS u,l.real=true)∧∃vals:List Value,(rvs.mapM (Ik a.tmps)).run P w=.ok vals w∧vals.length=rvs.length∧
   ∀(ρ:Lb→Option Lb) (j:Nat),(∀k l,nth u k=some (some l)→ρ l=some (.kK (j+k)))→(∀p∈r,ρ (.sp p.1 p.2)=none)→pB (c.map ρ) w j (jg rs t x).1 vals
 | [],[],_,t,y,x,u,r,he=>by
  injection he with he;injection he with e1 e2;injection e2 with e2 e3;subst e1 e2 e3;exact ⟨rfl,rfl,by simp [dS],[],rfl,rfl,fun _ _ _ _=>rfl⟩
 | [],_::_,hf,_,_,_,_,_,_=>hf.elim
 |_::_,[],hf,_,_,_,_,_,_=>hf.elim
 |rv::rvs,rr::rs,hf,t,y,x,u,r,he=>by
  unfold Ij at he;obtain ⟨cs,hc,he⟩:=Option.bind_eq_some_iff.1 he;obtain ⟨q,hq,he⟩:=Option.bind_eq_some_iff.1 he;obtain ⟨p,hp,he⟩:=Option.map_eq_some_iff.1 he;obtain ⟨x2,u2,r2⟩:=q;obtain ⟨x1,u1,r1⟩:=p;injection he with e1 e2;injection e2 with e2 e3;subst e1 e2 e3;obtain ⟨l1,l2,l3⟩:=Lo rr.ps _ cs _ hp;obtain ⟨vs,v,g1,g2,g3⟩:=RP.Xk hT h hf.1 hc l2;obtain ⟨k1,k2,k3,vals,k4,k5,k6⟩:=Lp hT h rvs rs hf.2 t y hq;have h0:=fun (ρ:Lb→Option Lb) (j:Nat)=>Bs h (ρ:=ρ) (f:=.kK) rr.ps (eE rs t) cs x2 vs j g1 hp
  have e0:=(h0 (fun _=>none) 0).1;refine ⟨?_,?_,fun l hl => ?_,v::vals,?_,by simp [k5],fun ρ j hu hr => ?_⟩
  ·show (jg rs t (fT rr.ps (eE rs t) x1).2).2=y;rw [e0];exact k1
  ·show (jg rs t (fT rr.ps (eE rs t) x1).2).1.length+1=_;rw [e0,k2];rfl
  ·rw [lN] at hl;rcases List.mem_append.1 hl with hl | hl
   ·unfold RP.lab at hl
    split at hl
    ·split at hl
     ·simp only [List.mem_singleton,Option.some.injEq] at hl;subst hl;rfl
     ·cases hl
    ·cases hl
   ·rcases List.mem_append.1 hl with hl | hl
    ·exact (h0 (fun _=>none) 0).2.1 l (lN.2 hl)
    ·exact k3 l (lN.2 hl)
  ·rw [List.mapM_cons];simp [Sem.run_bind,g2,k4]
  ·have e:(jg (rr::rs) t x1).1=rr.rv (fT rr.ps (eE rs t) x1).1::(jg rs t x2).1:=by
    show rr.rv (fT rr.ps (eE rs t) x1).1::(jg rs t (fT rr.ps (eE rs t) x1).2).1=_;rw [e0]
   show pB (c.map ρ) w j (jg (rr::rs) t x1).1 (v::vals);rw [e];rcases g3 with ⟨hnp,g3⟩ | ⟨tt,b,ty,us,Xl,adj,hv,kM,W5,Hd⟩
   ·have adj:rr.lab st=[]:=by
     unfold RP.lab
     split
     ·rename_i t' e';exact absurd e' (hnp t')
     ·rfl
    rw [adj,List.nil_append] at hu;have hL:=(h0 ρ j).2.2 (fun k l hk=>hu k l (by
     rw [qu,if_pos (WE hk)];exact hk)) (fun p hp=>hr p (List.mem_append_left _ hp))
    have ic:=k6 ρ (j+rr.ps.length) (fun k l hk=>by
     have:=hu (rr.ps.length+k) l (by rw [qu,l1,if_neg (by omega),Nat.add_sub_cancel_left];exact hk);rw [Nat.add_assoc];exact this) (fun p hp=>hr p (List.mem_append_right _ hp))
    have hrv:∀os,rr.rv os=(match rr.agg,os with | false,[o]=>RV.one o | _,os=>RV.agg os):=by
     intro os;unfold RP.rv
     split
     ·rename_i t' e';exact absurd e' (hnp t')
     ·rfl
    rcases g3 with ⟨ha,rfl⟩ | ⟨ha,rfl⟩
    ·have er:rr.rv (fT rr.ps (eE rs t) x1).1=.agg (fT rr.ps (eE rs t) x1).1:=by rw [hrv,ha]
     rw [er];exact ⟨vs.toArray,vals,rfl,by simpa using hL,by rw [l3];exact ic⟩
    ·have hlen:cs.length=1:=g1.1;have:(fT rr.ps (eE rs t) x1).1.length=1:=by rw [l3,←l2,hlen]
     cases ho:(fT rr.ps (eE rs t) x1).1 with
     |nil=>rw [ho] at this;cases this
     |cons o l=>cases l with
      |cons _ _=>rw [ho] at this;simp at this
      |nil=>
       have er:rr.rv [o]=.one o:=by rw [hrv,ha]
       rw [er];rw [ho] at hL;refine ⟨v,vals,rfl,hL,?_⟩;rw [←l2,hlen] at ic;exact ic
   ·rw [adj] at hu;have hb:=hu 0 (.box b) rfl;have hL:=(h0 ρ (j+1)).2.2 (fun k l hk=>by
     have:=hu (k+1) l (by
      show nth (u1++u2) k=_;rw [qu,if_pos (WE hk)];exact hk)
     rwa [show j+(k+1)=j+1+k by omega] at this) (fun p hp=>hr p (List.mem_append_left _ hp))
    have ic:=k6 ρ (j+(rr.ps.length+1)) (fun k l hk=>by
     have:=hu (rr.ps.length+k+1) l (by
      show nth (u1++u2) (rr.ps.length+k)=_;rw [qu,l1,if_neg (by omega),Nat.add_sub_cancel_left];exact hk)
     rwa [show j+(rr.ps.length+k+1)=j+(rr.ps.length+1)+k by omega] at this) (fun p hp=>hr p (List.mem_append_right _ hp))
    have er:rr.rv (fT rr.ps (eE rs t) x1).1=.ptr (fT rr.ps (eE rs t) x1).1:=by unfold RP.rv;rw [Xl]
    rw [er];subst Hd;refine ⟨v,vals,rfl,⟨c.bx b,us,ty,hv,?_,W5,hL⟩,by rw [l3];exact ic⟩;rw [Nat.add_zero] at hb;exact (Cz.o7 kM).trans hb
def MJ (mu:Mu) (lc:Nat→Nat→Loc) (i:Nat) (ps:List AP) (gq:List AV) (vs:List Value):Prop:=
 ∀(k:Nat) (p:AP) (av:AV) (v:Value),ps[k]?=some p→gq[k]?=some av→vs[k]?=some v→match p,av with
  |.io _ _,.io A=>v.oneCell'=true∧pX (lc (i+k) 0) A.r.width 0 A.xs.length v∧TI.arr (i+k) 0 1 A.r.width A.xs.length (lc (i+k) 0)∈mu.an
  |.box _ _,.box _=>∃sj,v=.pointer (some ⟨sj,0,none⟩)∧TI.box (i+k) 1 sj∈mu.an
  |.val _ _,.val _ _=>True
  |.dX qs,.dX os=>∃us,v=.agg us∧∀j A,os[j]?=some (.own A)→(∃r d,qs[j]?=some (.own r d))∧∃u,us.toList[j]?=some u∧u.oneCell'=true∧pX (lc (i+k) j) A.r.width 0 A.xs.length u∧TI.arr (i+k) j 1 A.r.width A.xs.length (lc (i+k) j)∈mu.an
  |_,_=>False
theorem yk {w0:World} {mu:Mu} {c:Cz} {st:St} {a:Act} {w:World} (h:Rel w0 mu c st a w) {lc:Nat→Nat→Loc}:(ps:List AP)→(i:Nat)→(gq:List AV)→(vs:List Value)→ps.length=gq.length→ps.length=vs.length→MJ mu lc i ps gq vs→{x:aO (cU ps)}→{u:List Lb}→{r:List (Nat×Nat)}→xP st i ps=some (x,u,r)→
  (∀l∈u,l.real=true)∧∃tb:List (Lb×Lb),tb.map (·.1)=u∧(∀p∈tb,p.2.om=true)∧∀ρ:Lb→Option Lb,(∀p∈tb,ρ p.1=some p.2)→(∀p∈r,ρ (.sp p.1 p.2)=none)→kN (c.map ρ) w lc i gq vs (qy ps x)
 | [],i,gq,vs,h1,h2,_,x,u,r,he=>by
  injection he with he;injection he with e1 e2;injection e2 with e2 e3;subst e2 e3;have:gq=[]:=by simpa using h1.symm
  subst this;exact ⟨by simp,[],rfl,by simp,fun _ _ _=>rfl⟩
 |p::ps,i,[],vs,h1,_,_,_,_,_,_=>by simp at h1
 |p::ps,i,_::_,[],_,h2,_,_,_,_,_=>by simp at h2
 |p::ps,i,av::gq,v::vs,h1,h2,hl,x,u,r,he=>by
  have Cm:MJ mu lc (i+1) ps gq vs:=fun k p' SC v' e1 e2 e3=>by
   have:=hl (k+1) p' SC v' (by simpa using e1) (by simpa using e2) (by simpa using e3)
   rwa [show i+(k+1)=i+1+k by omega] at this
  have h1':ps.length=gq.length:=by simpa using h1
  have h2':ps.length=vs.length:=by simpa using h2
  have h0:=hl 0 p av v rfl rfl rfl
  cases p with
  |val agg qs=>
   cases av with
   |val aax os=>
    obtain ⟨g1,tb,g2,g3,g4⟩:=yk h ps (i+1) gq vs h1' h2' Cm he;exact ⟨g1,tb,g2,g3,fun ρ hp hr=>g4 ρ hp hr⟩
   |io _=>exact h0.elim
   |box _=>exact h0.elim
   |dX _=>exact h0.elim
  |io rr dd=>
   cases av with
   |val _ _=>exact h0.elim
   |box _=>exact h0.elim
   |dX _=>exact h0.elim
   |io A=>
    obtain ⟨q1,q2,q3⟩:=h0;simp only [Nat.add_zero] at q2 q3;unfold xP at he;obtain ⟨q,hq,he⟩:=Option.bind_eq_some_iff.1 he;obtain ⟨p,hp,he⟩:=Option.map_eq_some_iff.1 he;obtain ⟨x2,u2,r2⟩:=q;obtain ⟨x1,u1,r1⟩:=p;injection he with e1 e2;injection e2 with e2 e3;subst e1 e2 e3;obtain ⟨g1,tb,g2,g3,g4⟩:=yk h ps (i+1) gq vs h1' h2' Cm hq;have han:=h.iC _ q3;have hV:iB c st w (.one (.ref i 0 1 .full)) v:=⟨q1,han.1,fun A' iS=>by
     obtain ⟨e1,e2,e3⟩:=han.2 A' iS;rw [e1,e3];show pX (lc i 0) A.r.width 0 A'.xs.length v;rw [e2];exact q2⟩
    obtain ⟨a1,a2,ta,a3,a4,a5⟩:=Ev h i hV hp;obtain ⟨A',iS,aj5⟩:∃A',cT st i 0 1=some A'∧∃xs,ek rr A'.xs=some xs∧x1.1=xs:=by
     have hp:(bif Nat.beq i i&&(Nat.beq 0 0&&Nat.beq 1 1) then ((cT st i 0 1).bind fun A=>bif A.own&&A.md.is dd then (ek rr A.xs).map fun xs=>((xs,x2),[Lb.sp i 0],([]:List (Nat×Nat))) else none) else none)=some (x1,u1,r1):=hp;obtain ⟨_,hp1⟩:=bM hp;obtain ⟨A',iS,hp2⟩:=Option.bind_eq_some_iff.1 hp1;obtain ⟨_,hp3⟩:=bM hp2;obtain ⟨xs,hxs,e⟩:=Option.map_eq_some_iff.1 hp3;injection e with e _;exact ⟨A',iS,xs,hxs,by rw [←e]⟩
    obtain ⟨xs,hxs,ex⟩:=aj5;obtain ⟨e1,e2,e3⟩:=han.2 A' iS;refine ⟨fun l hl => ?_,ta++tb,by simp [a3,g2],fun p hp => ?_,fun ρ hp hr => ?_⟩
    ·rcases List.mem_append.1 hl with hl | hl
     ·exact a2 l hl
     ·exact g1 l hl
    ·rcases List.mem_append.1 hp with hp | hp
     ·exact a4 p hp
     ·exact g3 p hp
    ·have hA5:=a5 ρ (fun p mj=>hp p (List.mem_append_left _ mj)) (fun p mj=>hr p (List.mem_append_left _ mj));have ic:=g4 ρ (fun p mj=>hp p (List.mem_append_right _ mj)) (fun p mj=>hr p (List.mem_append_right _ mj));have hA5:OwnAt (c.map ρ) w (.dC i 0) (c.lc i 0) { r:=rr,own:=true,xs:=x1.1,md:=dd } v:=hA5;rw [e3] at hA5;obtain ⟨er,Wp⟩:=dh hxs;refine ⟨{ r:=rr,own:=true,xs:=x1.1,md:=dd },qy ps x1.2,rfl,?_,?_,hA5,?_⟩
     ·show rr.width=A.r.width;rw [←er];exact e1
     ·show List.length (x1.1:List (aO rr))=A.xs.length;rw [ex,Wp,←e2]
      cases er
      rfl
     ·have:x1.2=x2:=a1;rw [this];exact ic
  |dX qs=>
   cases av with
   |val _ _=>exact h0.elim
   |io _=>exact h0.elim
   |box _=>exact h0.elim
   |dX os=>
    obtain ⟨us,rfl,q1⟩:=h0;simp only [Nat.add_zero] at q1;unfold xP at he;obtain ⟨q,hq,he⟩:=Option.bind_eq_some_iff.1 he;obtain ⟨p,hp,he⟩:=Option.map_eq_some_iff.1 he;obtain ⟨x2,u2,r2⟩:=q;obtain ⟨x1,u1⟩:=p;injection he with e1 e2;injection e2 with e2 e3;subst e1 e2 e3;obtain ⟨g1,tb,g2,g3,g4⟩:=yk h ps (i+1) gq vs h1' h2' Cm hq;obtain ⟨a1,a2,a3⟩:=mr qs 0 (cU ps) x2 hp
    let f:Lb→Lb×Lb:=fun l=>(l,match l with | .sp x y=>.dC x y | l=>l)
    refine ⟨fun l hl => ?_,u1.map f++tb,?_,fun p hp => ?_,fun ρ hp hr => ?_⟩
    ·rcases List.mem_append.1 hl with hl | hl
     ·obtain ⟨k,rfl⟩:=a2 l hl;rfl
     ·exact g1 l hl
    ·rw [List.map_append,List.map_map,g2]
     congr 1
     exact List.map_id u1
    ·rcases List.mem_append.1 hp with hp | hp
     ·obtain ⟨l,hl,rfl⟩:=List.mem_map.1 hp;obtain ⟨k,rfl⟩:=a2 l hl;rfl
     ·exact g3 p hp
    ·have ic:=g4 ρ (fun p mj=>hp p (List.mem_append_right _ mj)) hr;refine ⟨(qP qs (cU ps) x1).1,qy ps (qP qs (cU ps) x1).2,rfl,⟨us,rfl,fun j A hj => ?_⟩,by rw [a1];exact ic⟩;obtain ⟨⟨r,dd,hqr⟩,u,b1,b2,b3,b4⟩:=q1 j A hj;obtain ⟨A',xs,c1,c2,cd,c3,c4,c5⟩:=a3 j r dd hqr;rw [Nat.zero_add] at c1 c5;obtain ⟨e1,e2,e3⟩:=(h.iC _ b4).2 A' c1;obtain ⟨er,Wp⟩:=dh c3;have ha:=El h c1;have hρ:ρ (.sp i j)=some (.dC i j):=hp (.sp i j,.dC i j) (List.mem_append_left _ (List.mem_map.2 ⟨_,c5,rfl⟩));have hw:r.width=A.r.width:=by rw [←er];exact e1
     have hn:xs.length=A.xs.length:=by
      rw [←e2,Wp]
      cases er
      rfl
     refine ⟨_,u,c4,b1,hw,hn,b2,?_,rfl,?_⟩
     ·show pX (lc i j) r.width 0 xs.length u;rw [hw,hn];exact b3
     ·show match lc i j with
       |.nil=>xs=[]
       |.at b off cap=>_
      obtain ⟨rA,ayF,xsA,mdA⟩:=A';simp only at er c2 cd;subst er c2;have Wp:xs=xsA:=Wp;subst Wp;unfold fQ at ha;have e3:c.lc i j=lc i j:=e3;rw [e3] at ha
      cases nZ:lc i j with
      |nil=>rw [nZ] at ha;exact ha
      |«at» b off cap=>
       rw [nZ] at ha;obtain ⟨k0,k2,k3,k4⟩:=ha;exact ⟨(Cz.o7 k0).trans hρ,k2,k3,k4.map hρ⟩
  |box Mq qs=>
   cases av with
   |val _ _=>exact h0.elim
   |io _=>exact h0.elim
   |dX _=>exact h0.elim
   |box os=>
    obtain ⟨sj,q1,q2⟩:=h0;simp only [Nat.add_zero] at q2;unfold xP at he;obtain ⟨q,hq,he⟩:=Option.bind_eq_some_iff.1 he;obtain ⟨p,hp,he⟩:=Option.map_eq_some_iff.1 he;obtain ⟨x2,u2,r2⟩:=q;obtain ⟨x1,u1,r1⟩:=p;injection he with e1 e2;injection e2 with e2 e3;subst e1 e2 e3;obtain ⟨g1,tb,g2,g3,g4⟩:=yk h ps (i+1) gq vs h1' h2' Cm hq;have han:=h.iC _ q2;have hV:iB c st w (.one (.ptr i 1 0)) v:=⟨by rw [q1];rfl,han.1,fun cs yL=>by rw [han.2 cs yL,q1]⟩;obtain ⟨a1,a2,ta,a3,a4,a5⟩:=Ev h i hV hp;refine ⟨fun l hl => ?_,ta++tb,by simp [a3,g2],fun p hp => ?_,fun ρ hp hr => ?_⟩
    ·rcases List.mem_append.1 hl with hl | hl
     ·exact a2 l hl
     ·exact g1 l hl
    ·rcases List.mem_append.1 hp with hp | hp
     ·exact a4 p hp
     ·exact g3 p hp
    ·have hA5:=a5 ρ (fun p mj=>hp p (List.mem_append_left _ mj)) (fun p mj=>hr p (List.mem_append_left _ mj));have ic:=g4 ρ (fun p mj=>hp p (List.mem_append_right _ mj)) (fun p mj=>hr p (List.mem_append_right _ mj));refine ⟨(fT qs (cU ps) x1).1,qy ps (fT qs (cU ps) x1).2,rfl,hA5,?_⟩;have:(fT qs (cU ps) x1).2=x2:=a1;rw [this];exact ic
end Go.TM
namespace Go.TM
open Go Go.RowKit
def start (n:Nat) (ps:List AP) (x:aO (aM (ps.map some))):St:=sk 0 (ef (ps.map some) x++List.replicate (n+1-ps.length) none)
theorem u0:(l:List (Option AP))→(x:aO (aM l))→(ef l x).length=l.length
 | [],_=>rfl
 |none::l,x=>by
  show (ef l x).length+1=l.length+1;rw [u0 l x]
 |some p::l,x=>by
  show (ef l (p.av (aM l) x).2).length+1=l.length+1;rw [u0 l _]
theorem Cu {c:Cz} {w:World} {lc:Nat→Nat→Loc}:(ps:List AP)→(i:Nat)→(gq:List AV)→(vs:List Value)→{x:aO (aM (ps.map some))}→iE ps gq=some x→De c w lc i gq vs→
  ps.length=gq.length∧ps.length=vs.length∧∀k av,(ef (ps.map some) x)[k]?=some (some av)→∃v,vs[k]?=some v∧xp c w (i+k) (lc (i+k)) av v
 | [],i,[],vs,x,hx,h=>by
  have:vs=[]:=h;subst this;exact ⟨rfl,rfl,fun k av hk=>by
   have hk:([]:List (Option AV))[k]?=some (some av):=hk;simp at hk⟩
 | [],_,_::_,_,_,hx,_=>by simp [iE] at hx
 |_::_,_,[],_,_,hx,_=>by simp [iE] at hx
 |p::ps,i,av::gq,vs,x,hx,h=>by
  obtain ⟨v,l,rfl,h1,h2⟩:=h;unfold iE at hx
  cases hy:iE ps gq with
  |none=>simp [hy] at hx
  |some y=>
   simp only [hy] at hx;obtain ⟨g1,g2,g3⟩:=Cu ps (i+1) gq l hy h2;obtain ⟨q1,q2⟩:=OD (c:=c) (w:=w) (i:=i) (lc:=lc i) hx;refine ⟨by simp [g1],by simp [g2],fun k SC hk => ?_⟩
   cases k with
   |zero=>
    have hk:some (some (p.av (aM (ps.map some)) x).1)=some (some SC):=hk;simp only [Option.some.injEq] at hk;subst hk;exact ⟨v,rfl,q2 v h1⟩
   |succ k=>
    have hk:(ef (ps.map some) (p.av (aM (ps.map some)) x).2)[k]?=some (some SC):=hk;rw [q1] at hk;obtain ⟨v',h3,h4⟩:=g3 k SC hk;exact ⟨v',by simpa using h3,by rw [show i+(k+1)=i+1+k by omega];exact h4⟩
def lO (lc:Nat→Loc) (i:Nat):(j:Nat)→List OV→List TI
 |_,[]=>[]
 |j,.own A::os=>.arr i j 1 A.r.width A.xs.length (lc j)::lO lc i (j+1) os
 |j,.int _ _::os=>lO lc i (j+1) os
 |j,.bool _::os=>lO lc i (j+1) os
 |j,.str _::os=>lO lc i (j+1) os
 |j,.shr _ _::os=>lO lc i (j+1) os
 |j,.oe _ _::os=>lO lc i (j+1) os
 |j,.fn _ _ _::os=>lO lc i (j+1) os
 |j,.gJ::os=>lO lc i (j+1) os
theorem Ey {lc:Nat→Loc} {i:Nat}:(os:List OV)→(j:Nat)→∀p∈lO lc i j os,∃k A,os[k]?=some (.own A)∧p=.arr i (j+k) 1 A.r.width A.xs.length (lc (j+k))
 | [],j,p,h=>by simp [lO] at h
 |o::os,j,p,h=>by
  have rest:p∈lO lc i (j+1) os→∃k A,(o::os)[k]?=some (.own A)∧p=.arr i (j+k) 1 A.r.width A.xs.length (lc (j+k)):=by
   intro h;obtain ⟨k,A,h1,h2⟩:=Ey os (j+1) p h;refine ⟨k+1,A,by simpa using h1,?_⟩;rw [h2,show j+1+k=j+(k+1) by omega]
  cases o with
  |own A=>
   rcases List.mem_cons.1 h with h | h
   ·exact ⟨0,A,rfl,h⟩
   ·exact rest h
  |_=>exact rest h
theorem GD {lc:Nat→Loc} {i:Nat}:(os:List OV)→(j:Nat)→∀(k:Nat) (A:nY),os[k]?=some (.own A)→TI.arr i (j+k) 1 A.r.width A.xs.length (lc (j+k))∈lO lc i j os
 | [],j,k,A,h=>by simp at h
 |o::os,j,0,A,h=>by
  simp only [List.getElem?_cons_zero,Option.some.injEq] at h;subst h;exact List.mem_cons_self
 |o::os,j,k+1,A,h=>by
  have:=GD (lc:=lc) (i:=i) os (j+1) k A (by simpa using h);rw [show j+1+k=j+(k+1) by omega] at this
  cases o with
  |own A=>exact List.mem_cons_of_mem _ this
  |_=>exact this
def Il (lc:Nat→Nat→Loc):(i:Nat)→List AV→List Value→List TI
 |_,[],_=>[]
 |_,_::_,[]=>[]
 |i,.val _ _::as,_::vs=>Il lc (i+1) as vs
 |i,.io A::as,_::vs=>.arr i 0 1 A.r.width A.xs.length (lc i 0)::Il lc (i+1) as vs
 |i,.dX os::as,_::vs=>lO (lc i) i 0 os++Il lc (i+1) as vs
 |i,.box _::as,v::vs=>.box i 1 (match v with | .pointer (some ad)=>ad.block | _=>0)::Il lc (i+1) as vs
theorem yl {lc:Nat→Nat→Loc}:(i:Nat)→(as:List AV)→(vs:List Value)→∀p∈Il lc i as vs,∃k av v,as[k]?=some av∧vs[k]?=some v∧((∃A,av=.io A∧p=.arr (i+k) 0 1 A.r.width A.xs.length (lc (i+k) 0))∨(∃os,av=.box os∧p=.box (i+k) 1 (match v with | .pointer (some ad)=>ad.block | _=>0))∨∃os j A,av=.dX os∧os[j]?=some (.own A)∧p=.arr (i+k) j 1 A.r.width A.xs.length (lc (i+k) j))
 |_,[],_,p,h=>by simp [Il] at h
 |_,_::_,[],p,h=>by simp [Il] at h
 |i,.val _ _::as,_::vs,p,h=>by
  obtain ⟨k,av,v,h1,h2,h3⟩:=yl (i+1) as vs p h;exact ⟨k+1,av,v,by simpa using h1,by simpa using h2,by rw [show i+(k+1)=i+1+k by omega];exact h3⟩
 |i,.io A::as,v0::vs,p,h=>by
  rcases List.mem_cons.1 h with h | h
  ·exact ⟨0,.io A,v0,rfl,rfl,.inl ⟨A,rfl,h⟩⟩
  ·obtain ⟨k,av,v,h1,h2,h3⟩:=yl (i+1) as vs p h;exact ⟨k+1,av,v,by simpa using h1,by simpa using h2,by rw [show i+(k+1)=i+1+k by omega];exact h3⟩
 |i,.box os::as,v0::vs,p,h=>by
  rcases List.mem_cons.1 h with h | h
  ·exact ⟨0,.box os,v0,rfl,rfl,.inr (.inl ⟨os,rfl,h⟩)⟩
  ·obtain ⟨k,av,v,h1,h2,h3⟩:=yl (i+1) as vs p h;exact ⟨k+1,av,v,by simpa using h1,by simpa using h2,by rw [show i+(k+1)=i+1+k by omega];exact h3⟩
 |i,.dX os::as,v0::vs,p,h=>by
  rcases List.mem_append.1 h with h | h
  ·obtain ⟨j,A,h1,h2⟩:=Ey os 0 p h;rw [Nat.zero_add] at h2;exact ⟨0,.dX os,v0,rfl,rfl,.inr (.inr ⟨os,j,A,rfl,h1,h2⟩)⟩
  ·obtain ⟨k,av,v,h1,h2,h3⟩:=yl (i+1) as vs p h;exact ⟨k+1,av,v,by simpa using h1,by simpa using h2,by rw [show i+(k+1)=i+1+k by omega];exact h3⟩
theorem SG {lc:Nat→Nat→Loc}:(i:Nat)→(as:List AV)→(vs:List Value)→as.length=vs.length→∀k av v,as[k]?=some av→vs[k]?=some v→(∀A,av=.io A→TI.arr (i+k) 0 1 A.r.width A.xs.length (lc (i+k) 0)∈Il lc i as vs)∧(∀os,av=.box os→TI.box (i+k) 1 (match v with | .pointer (some ad)=>ad.block | _=>0)∈Il lc i as vs)∧(∀os,av=.dX os→∀j A,os[j]?=some (.own A)→TI.arr (i+k) j 1 A.r.width A.xs.length (lc (i+k) j)∈Il lc i as vs)
 |_,[],_,_,k,av,v,h,_=>by simp at h
 |_,_::_,[],hn,_,_,_,_,_=>by simp at hn
 |i,a0::as,v0::vs,hn,0,av,v,h1,h2=>by
  simp only [List.getElem?_cons_zero,Option.some.injEq] at h1 h2;subst h1 h2;refine ⟨fun A e => ?_,fun os e => ?_,fun os e j A hj => ?_⟩
  ·subst e;exact List.mem_cons_self
  ·subst e;exact List.mem_cons_self
  ·subst e;have:=GD (lc:=lc i) (i:=i) os 0 j A hj;rw [Nat.zero_add] at this;exact List.mem_append_left _ this
 |i,a0::as,v0::vs,hn,k+1,av,v,h1,h2=>by
  obtain ⟨g1,g2,g3⟩:=SG (i+1) as vs (by simpa using hn) k av v (by simpa using h1) (by simpa using h2);have e:i+(k+1)=i+1+k:=by omega
  rw [e]
  cases a0 with
  |val _ _=>exact ⟨g1,g2,g3⟩
  |io _=>exact ⟨fun A h=>List.mem_cons_of_mem _ (g1 A h),fun os h=>List.mem_cons_of_mem _ (g2 os h),fun os h j A hj=>List.mem_cons_of_mem _ (g3 os h j A hj)⟩
  |box _=>exact ⟨fun A h=>List.mem_cons_of_mem _ (g1 A h),fun os h=>List.mem_cons_of_mem _ (g2 os h),fun os h j A hj=>List.mem_cons_of_mem _ (g3 os h j A hj)⟩
  |dX _=>exact ⟨fun A h=>List.mem_append_right _ (g1 A h),fun os h=>List.mem_append_right _ (g2 os h),fun os h j A hj=>List.mem_append_right _ (g3 os h j A hj)⟩
def qg (ps:List AP) (mu:Mu):Prop:=
 ∀p∈mu.an,(∃i r W n l,p=.arr i 0 1 W n l∧∃d,ps[i]?=some (.io r d))∨(∃i sj b qs,p=.box i 1 sj∧ps[i]?=some (.box b qs))∨∃i j W n l qs,p=.arr i j 1 W n l∧ps[i]?=some (.dX qs)
theorem Im:(ps:List OP)→(t:RT)→(os:List OV)→(y:aO t)→{x:aO (pZ ps t)}→fL ps t os y=some x→∀(j:Nat) (A:nY),os[j]?=some (.own A)→(∃r d,ps[j]?=some (.own r d))∧∃B:nY,(fT ps t x).1[j]?=some (.own B)∧B.r.width=A.r.width∧B.xs.length=A.xs.length
 | [],t,[],y,x,h=>by intro k A hk;simp at hk
 | [],_,_::_,_,_,h=>by simp [fL] at h
 |_::_,_,[],_,_,h=>by simp [fL] at h
 |p::ps,t,o::os,y,x,h=>by
  unfold fL at h
  cases h1:we p o with
  |none=>simp [h1] at h
  |some a=>
   cases h2:fL ps t os y with
   |none=>simp [h1,h2] at h
   |some z=>
    simp only [h1,h2] at h;have h:(a,z)=x:=Option.some.inj h;subst h;intro j A hj
    cases j with
    |succ j=>
     obtain ⟨⟨r,d,q1⟩,B,q2,q3⟩:=Im ps t os y h2 j A (by simpa using hj);exact ⟨⟨r,d,by simpa using q1⟩,B,(by show (fT ps t z).1[j]?=_;exact q2),q3⟩
    |zero=>
     simp only [List.getElem?_cons_zero,Option.some.injEq] at hj;subst hj
     cases p with
     |own r d=>
      have h1:(bif A.md.is d then ek r A.xs else none)=some a:=h1;obtain ⟨_,h1⟩:=bM h1;obtain ⟨er,Wp⟩:=dh h1;refine ⟨⟨r,d,rfl⟩,{ r:=r,own:=true,xs:=a,md:=d },rfl,by show r.width=_;rw [←er],?_⟩;show List.length (a:List (aO r))=_;rw [Wp]
      cases er
      rfl
     |_=>cases h1
theorem GF:(ps:List AP)→(gq:List AV)→{x:aO (aM (ps.map some))}→iE ps gq=some x→∀(k:Nat) (av:AV),gq[k]?=some av→∃p:AP,ps[k]?=some p∧match p,av with
  |.io _ _,.io A=>∃B:nY,(ef (ps.map some) x)[k]?=some (some (.io B))∧B.r.width=A.r.width∧B.xs.length=A.xs.length
  |.box _ _,.box _=>True
  |.val _ _,.val _ _=>True
  |.dX qs,.dX os=>∃Fp:List OV,(ef (ps.map some) x)[k]?=some (some (AV.dX Fp))∧∀(j:Nat) (A:nY),os[j]?=some (OV.own A)→(∃r d,qs[j]?=some (OP.own r d))∧∃B:nY,Fp[j]?=some (OV.own B)∧B.r.width=A.r.width∧B.xs.length=A.xs.length
  |_,_=>False
 | [],[],_,_=>by intro k av h;simp at h
 | [],_::_,_,hx=>by simp [iE] at hx
 |_::_,[],_,hx=>by simp [iE] at hx
 |p::ps,av::gq,x,hx=>by
  unfold iE at hx
  cases hy:iE ps gq with
  |none=>simp [hy] at hx
  |some y=>
   simp only [hy] at hx;have e2:(p.av (aM (ps.map some)) x).2=y:=(OD (c:=⟨fun _=>0,fun _ _=>.nil,fun _=>none⟩) (w:=default) (i:=0) (lc:=fun _=>.nil) hx).1;intro k SC hk
   cases k with
   |zero=>
    simp only [List.getElem?_cons_zero,Option.some.injEq] at hk;subst hk;refine ⟨p,rfl,?_⟩
    cases p with
    |val agg qs=>cases av with
     |val _ _=>trivial
     |io _=>cases agg<;>cases hx
     |box _=>cases agg<;>cases hx
     |dX _=>cases agg<;>cases hx
    |io r d=>cases av with
     |val _ _=>cases hx
     |box _=>cases hx
     |dX _=>cases hx
     |io A=>
      have hx:(bif A.md.is d then (match ek r A.xs with | some xs=>some ((xs,y):aO (.cons (.sl r) (aM (ps.map some)))) | none=>none) else none)=some x:=hx;obtain ⟨_,hx⟩:=bM hx
      cases hc:ek r A.xs with
      |none=>rw [hc] at hx;cases hx
      |some xs=>
       rw [hc] at hx;injection hx with hx;obtain ⟨er,Wp⟩:=dh hc;refine ⟨{ r:=r,own:=true,xs:=x.1,md:=d },rfl,by show r.width=_;rw [←er],?_⟩;show List.length (x.1:List (aO r))=_;rw [←hx];show xs.length=_;rw [Wp]
       cases er
       rfl
    |box b qs=>cases av with
     |val _ _=>cases hx
     |io _=>cases hx
     |dX _=>cases hx
     |box _=>trivial
    |dX qs=>cases av with
     |val _ _=>cases hx
     |io _=>cases hx
     |box _=>cases hx
     |dX os=>
      have hx:fL qs (aM (ps.map some)) os y=some x:=hx;exact ⟨_,rfl,Im qs _ os y hx⟩
   |succ k=>
    obtain ⟨p',h1,h2⟩:=GF ps gq hy k SC (by simpa using hk);refine ⟨p',by simpa using h1,?_⟩;have eh:(ef ((p::ps).map some) x)[k+1]?=(ef (ps.map some) y)[k]?:=by
     show (ef (ps.map some) (p.av (aM (ps.map some)) x).2)[k]?=_;rw [e2]
    cases p'<;>cases SC<;>simp only at h2 ⊢ <;> (try exact h2)
    ·obtain ⟨B,q1,q2,q3⟩:=h2;exact ⟨B,eh.trans q1,q2,q3⟩
    ·obtain ⟨Fp,q1,q2⟩:=h2;exact ⟨Fp,eh.trans q1,q2⟩
end Go.TM
namespace Go.TM
open Go Go.RowKit
theorem OE {P:Program} {fn:Func} {tm:Array Value} {w:World} {vals:List Value} (h:(fn.results.toList.mapM (Ik tm)).run P w=.ok vals w) :
  (results fn tm).run P w=.ok (if hs:vals.toArray.size=1 then vals.toArray[0] else .tuple vals.toArray) w:=by
 have e:results fn tm=(do let vs ←fn.results.mapM (Ik tm);pure (if h:vs.size=1 then vs[0] else .tuple vs):Sem Value):=rfl;rw [e,Array.mapM_eq_mapM_toList];simp [Sem.run_bind,h]
theorem OF {c:Cz} {w:World} {mu:Mu} {lc:Nat→Nat→Loc} {gq:List AV} {args:Array Value} (hH:Handed c w mu) (hA:De c w lc 0 gq args.toList) {ps:List AP} {x:aO (aM (ps.map some))} (hx:iE ps gq=some x) {n:Nat} (hn:ps.length≤n) :
  ∃(Ht:Mu) (c':Cz),Ht.m=mu.m∧Ht.ok=mu.ok∧qg ps Ht∧MJ Ht lc 0 ps gq args.toList∧args.size=ps.length∧gq.length=ps.length∧
   Rel w Ht c' (start n ps x) { tmps:=args++Array.replicate (n-args.size) undef,defers:=[] } w:=by
 obtain ⟨l1,l2,hold⟩:=Cu ps 0 gq args.toList hx hA;have Xm:=GF ps gq hx;have Io:args.size=ps.length:=by rw [l2];simp
 let a:Act:={ tmps:=args++Array.replicate (n-args.size) undef,defers:=[] }
 have abX:∀k v,args.toList[k]?=some v→a.eval (.tmp k)=v:=by
  intro k v hk;have dB:k<args.size:=by
   have:=(List.getElem?_eq_some_iff.1 hk).1;simpa using this
  show (args++Array.replicate (n-args.size) undef).getD k undef=v;rw [Array.getD_eq_getD_getElem?,Array.getElem?_append_left dB];rw [Array.getElem?_toList] at hk;rw [hk];rfl
 let Ht:Mu:={ m:=mu.m,ok:=mu.ok,an:=Il lc 0 gq args.toList }
 have hlen:(ef (ps.map some) x++List.replicate (n+1-ps.length) none).length=n+1:=by
  rw [List.length_append,u0];simp;omega
 have Oa:∀(i:Nat) (av:AV),(ef (ps.map some) x++List.replicate (n+1-ps.length) none)[i]?=some (some av)→(ef (ps.map some) x)[i]?=some (some av):=by
  intro i av hi
  by_cases h:i<(ef (ps.map some) x).length
  ·rwa [List.getElem?_append_left h] at hi
  ·rw [List.getElem?_append_right (by omega),List.getElem?_replicate] at hi
   split at hi<;>simp at hi
 have FB:Fx w Ht c w:=⟨fun b l hb=>⟨hH.lt b l hb,(hH.lb b l hb).imp id fun hh=>.inr ((hH.m b).2 ⟨l,hb,hh⟩)⟩,fun b _ hb=>.inr ((hH.ok b).2 hb),⟨rfl,rfl,rfl,Nat.le_refl _⟩,fun _ _ _=>rfl⟩;have adk:FD c w lc a 0 (ef (ps.map some) x++List.replicate (n+1-ps.length) none):=by
  intro i av hi;obtain ⟨v,h1,h2⟩:=hold i av (Oa i av hi);have:=abX i v h1;rw [Nat.zero_add] at h2 ⊢;rw [this];exact h2
 have abY:∀k av v,gq[k]?=some av→args.toList[k]?=some v→xp c w k (lc k) av v:=by
  have key:∀(gq:List AV) (i:Nat) (vs:List Value),De c w lc i gq vs→∀k av v,gq[k]?=some av→vs[k]?=some v→xp c w (i+k) (lc (i+k)) av v:=by
   intro gq
   induction gq with
   |nil=>intro i vs _ k av v h;simp at h
   |cons a0 gq ih=>
    intro i vs h k av v h1 h2;obtain ⟨v0,l,rfl,g1,g2⟩:=h
    cases k with
    |zero=>simp at h1 h2;subst h1 h2;exact g1
    |succ k=>
     have:=ih (i+1) l g2 k av v (by simpa using h1) (by simpa using h2)
     rwa [show i+1+k=i+(k+1) by omega] at this
  intro k av v h1 h2;have:=key gq 0 args.toList hA k av v h1 h2
  rwa [Nat.zero_add] at this
 have aj6:∀p∈Ht.an,Xf (ef (ps.map some) x++List.replicate (n+1-ps.length) none) lc a p:=by
  intro p hp;obtain ⟨k,av,v,h1,h2,h3⟩:=yl 0 gq args.toList p hp;have hk:k<ps.length:=by rw [l1];exact (List.getElem?_eq_some_iff.1 h1).1
  simp only [Nat.zero_add] at h3;obtain ⟨p',q1,q2⟩:=Xm k av h1;rcases h3 with ⟨A,rfl,rfl⟩ | ⟨os,rfl,rfl⟩ | ⟨os,j,A,rfl,hj,rfl⟩
  ·refine ⟨rfl,by rw [hlen];omega,fun SC adl=>.inl ?_⟩
   cases p' with
   |io r dd=>
    obtain ⟨B,e1,e2,e3⟩:=q2;have:=Oa k SC adl;rw [e1] at this;simp only [Option.some.injEq] at this;exact ⟨B,this.symm,fun _=>⟨e2,e3,rfl⟩⟩
   |val _ _=>exact q2.elim
   |box _ _=>exact q2.elim
   |dX _=>exact q2.elim
  ·refine ⟨rfl,by rw [hlen];omega,fun Fp _ => ?_⟩;obtain ⟨sj,vs,ty,e1,_⟩:=abY k _ v h1 h2;rw [abX k v h2,e1]
  ·refine ⟨rfl,by rw [hlen];omega,fun SC adl=>.inr ?_⟩
   cases p' with
   |io r dd=>exact q2.elim
   |val _ _=>exact q2.elim
   |box _ _=>exact q2.elim
   |dX qs=>
    obtain ⟨Fp,e1,e2⟩:=q2;have:=Oa k SC adl;rw [e1] at this;simp only [Option.some.injEq] at this;obtain ⟨_,B,e3,e4,e5⟩:=e2 j A hj;refine ⟨Fp,this.symm,fun A' iS => ?_⟩;rw [e3] at iS;injection iS with iS;injection iS with iS;subst iS;exact ⟨e4,e5,rfl⟩
 obtain ⟨c',hR⟩:=Rel.SE (a:=a) FB rfl adk aj6;refine ⟨Ht,c',rfl,rfl,fun p hp => ?_,fun k p av v h0 h1 h2 => ?_,Io,l1.symm,hR⟩
 ·obtain ⟨k,av,v,h1,h2,h3⟩:=yl 0 gq args.toList p hp;simp only [Nat.zero_add] at h3;obtain ⟨p',q1,q2⟩:=Xm k av h1;rcases h3 with ⟨A,rfl,rfl⟩ | ⟨os,rfl,rfl⟩ | ⟨os,j,A,rfl,hj,rfl⟩
  ·cases p' with
   |io r dd=>exact .inl ⟨k,r,_,_,_,rfl,dd,q1⟩
   |val _ _=>exact q2.elim
   |box _ _=>exact q2.elim
   |dX _=>exact q2.elim
  ·cases p' with
   |io r dd=>exact q2.elim
   |val _ _=>exact q2.elim
   |box b qs=>exact .inr (.inl ⟨k,_,b,qs,rfl,q1⟩)
   |dX _=>exact q2.elim
  ·cases p' with
   |io r dd=>exact q2.elim
   |val _ _=>exact q2.elim
   |box b qs=>exact q2.elim
   |dX qs=>exact .inr (.inr ⟨k,j,_,_,_,qs,rfl,q1⟩)
 ·obtain ⟨p',q1,q2⟩:=Xm k av h1;rw [h0] at q1
  cases q1
  have hh:=abY k av v h1 h2;obtain ⟨a1,a2,a3⟩:=SG (lc:=lc) 0 gq args.toList (by rw [←l1,l2]) k av v h1 h2;rw [Nat.zero_add] at a1 a2 a3 ⊢
  cases p with
  |val _ _=>cases av with
   |val _ _=>trivial
   |io _=>exact q2.elim
   |box _=>exact q2.elim
   |dX _=>exact q2.elim
  |dX qs=>cases av with
   |val _ _=>exact q2.elim
   |io _=>exact q2.elim
   |box _=>exact q2.elim
   |dX os=>
    obtain ⟨us,rfl,hl,adh⟩:=hh;obtain ⟨Fp,_,e2⟩:=q2;obtain ⟨n1,_⟩:=cN.Xe os 0 _ hl;refine ⟨us,rfl,fun j A hj=>⟨(e2 j A hj).1,?_⟩⟩;have dB:j<us.toList.length:=by rw [n1];exact (List.getElem?_eq_some_iff.1 hj).1
    have hO:OwnAt c w (.dC k j) (lc k j) A us.toList[j]:=adh j _ _ hj (List.getElem?_eq_getElem dB);exact ⟨_,List.getElem?_eq_getElem dB,hO.1,hO.2.1,a3 os rfl j A hj⟩
  |io r dd=>cases av with
   |val _ _=>exact q2.elim
   |box _=>exact q2.elim
   |dX _=>exact q2.elim
   |io A=>
    have hO:OwnAt c w (.dC k 0) (lc k 0) A v:=hh;exact ⟨hO.1,hO.2.1,a1 A rfl⟩
  |box _ _=>cases av with
   |val _ _=>exact q2.elim
   |io _=>exact q2.elim
   |dX _=>exact q2.elim
   |box os=>
    obtain ⟨sj,vs,ty,e1,_⟩:=hh;refine ⟨sj,e1,?_⟩;have:=a2 os rfl;rw [e1] at this;exact this
theorem QH {P:Program} {T:pA} (hT:j7 P T) {w0:World} {mu Ht:Mu} (hm:Ht.m=mu.m) (je:Ht.ok=mu.ok) {c:Cz} {st:St} {a:Act} {w:World} (h:Rel w0 Ht c st a w) {fn:Func} {ps:List AP} {rs:List RP} (hrs:Dh T a.tmps fn.results.toList rs)
  {lc:Nat→Nat→Loc} {gq:List AV} {vs:List Value} (h1:ps.length=gq.length) (h2:ps.length=vs.length) (hl:MJ Ht lc 0 ps gq vs) {e:Ex} {y:aO (eE rs (cU ps))} (hf:FE rs ps e st=some y) :
  (e=.normal∨e=.ret)∧∃v,(results fn a.tmps).run P w=.ok v w∧∃c',Fx w0 mu c' w∧wa c' w (jg rs (cU ps) y).1 v∧kN c' w lc 0 gq vs (qy ps (jg rs (cU ps) y).2):=by
 have he:e=.normal∨e=.ret:=by
  cases e with
  |normal=>exact .inl rfl
  |ret=>exact .inr rfl
  |exit m=>cases hf
 refine ⟨he,?_⟩;have hf:((xP st 0 ps).bind fun x=>(Ij st rs (cU ps) x.1).bind fun q=>bif yP (dS q.2.1++x.2.1)&&apart (dS q.2.1++x.2.1) (q.2.2++x.2.2) then some q.1 else none)=some y:=by
  rcases he with rfl | rfl<;>exact hf
 obtain ⟨qx,hqx,hf⟩:=Option.bind_eq_some_iff.1 hf;obtain ⟨qr,hqr,hf⟩:=Option.bind_eq_some_iff.1 hf;obtain ⟨tV,hy⟩:=bM hf;injection hy with hy;obtain ⟨x1,u1,r1⟩:=qx;obtain ⟨x2,u2,r2⟩:=qr;subst hy;rw [Bool.and_eq_true] at tV;obtain ⟨a1,tb,a2,a3,a4⟩:=yk h ps 0 gq vs h1 h2 hl hqx;obtain ⟨b1,b2,b3,vals,b4,b5,b6⟩:=Lp hT h fn.results.toList rs hrs (cU ps) x1 hqr;have GB:∀l∈dS u2++u1,l.real=true:=fun l hl=>(List.mem_append.1 hl).elim (b3 l) (a1 l)
 have hnd:=tc _ GB tV.1;have hap:∀p∈r2++r1,Lb.sp p.1 p.2∉dS u2++u1:=by
  intro p hp hm;have h1:=List.all_eq_true.1 tV.2 p hp;have h2:=List.all_eq_true.1 h1 _ hm;rw [(Lb.En rfl).2 rfl] at h2
  cases h2
 let tab:=Ep .kK 0 u2++tb
 have aj7:tab.map (·.1)=dS u2++u1:=by show (Ep .kK 0 u2++tb).map _=_;rw [List.map_append,Er,a2]
 have AG:=Classical.propDecidable
 let ρ:Lb→Option Lb:=fun l=>match look tab l with | some y=>some y | none=>if l=.out then some .out else none
 have hρt:∀p∈tab,ρ p.1=some p.2:=by
  intro p hp;have:=Eo tab (by rw [aj7];exact hnd) hp;show (match look tab p.1 with | some y=>some y | none=>_)=_;rw [this]
 have Eu:∀ {l y},look tab l=some y→l∈dS u2++u1:=by
  intro l y hl;have:=Cr tab hl;rw [←aj7];exact List.mem_map.2 ⟨_,this,rfl⟩
 have hρr:∀p∈r2++r1,ρ (.sp p.1 p.2)=none:=by
  intro p hp;show (match look tab (.sp p.1 p.2) with | some y=>some y | none=>if Lb.sp p.1 p.2=.out then some Lb.out else none)=none
  cases hl:look tab (.sp p.1 p.2) with
  |some y=>exact absurd (Eu hl) (hap p hp)
  |none=>simp
 have hρo:ρ .out=some .out:=by
  show (match look tab Lb.out with | some y=>some y | none=>if Lb.out=Lb.out then some Lb.out else none)=_
  cases hl:look tab Lb.out with
  |some y=>have:=GB _ (Eu hl);cases this
  |none=>simp
 have FB:Fx w0 mu (c.map ρ) w:=by
  refine ⟨fun b l hb => ?_,fun b hb hn => ?_,h.kept,by rw [←hm];exact h.old⟩
  ·obtain ⟨k,hk,e⟩:=Cz.map_some hb;obtain ⟨g1,g2⟩:=h.owned b k hk;refine ⟨g1,?_⟩;rw [←hm];refine g2.imp (fun e2 => ?_) id;subst e2;rw [hρo] at e
   cases e;rfl
  ·rw [←hm,←je]
   cases hk:c.own b with
   |none=>exact h.free b hb hk
   |some k=>
    have e:ρ k=none:=(Cz.o7 (ρ:=ρ) hk).symm.trans hn;rcases (h.owned b k hk).2 with g | g | g
    ·subst g;rw [hρo] at e;cases e
    ·exact absurd g (Nat.not_le_of_lt hb)
    ·exact .inl g
 have hX:=a4 ρ (fun p hp=>hρt p (List.mem_append_right _ hp)) (fun p hp=>hρr p (List.mem_append_right _ hp));have hR:=b6 ρ 0 (fun k l hk=>by
  have:=hρt _ (List.mem_append_left tb (Br .kK 0 u2 k l hk));exact this) (fun p hp=>hρr p (List.mem_append_left _ hp))
 refine ⟨_,OE b4,c.map ρ,FB,?_,by rw [b1];exact hX⟩;have hlen:vals.length=(jg rs (cU ps) x2).1.length:=by
  have:rs.length=fn.results.toList.length:=by
   have key:∀(l:List ResultVar) (m:List RP),Dh T a.tmps l m→m.length=l.length:=by
    intro l
    induction l with
    |nil=>intro m hm;cases m with
     |nil=>rfl
     |cons _ _=>exact hm.elim
    |cons v l ih=>intro m hm;cases m with
     |nil=>exact hm.elim
     |cons r m=>simp [ih m hm.2]
   exact key _ _ hrs
  rw [b5,b2,this]
 by_cases hs:vals.toArray.size=1
 ·rw [dif_pos hs];have Ea:vals.length=1:=by simpa using hs
  obtain ⟨v,rfl⟩:∃v,vals=[v]:=by
   cases vals with
   |nil=>cases Ea
   |cons v l=>cases l with
    |nil=>exact ⟨v,rfl⟩
    |cons _ _=>simp at Ea
  rw [Ea] at hlen
  cases ho:(jg rs (cU ps) x2).1 with
  |nil=>rw [ho] at hlen;cases hlen
  |cons r l=>cases l with
   |cons _ _=>rw [ho] at hlen;simp at hlen
   |nil=>
    rw [ho] at hR;exact .inl ⟨r,rfl,hR⟩
 ·rw [dif_neg hs];refine .inr ⟨by rw [←hlen];simpa using hs,vals.toArray,rfl,by simpa using hR⟩
theorem OG {P:Program} {T:pA} (hT:j7 P T) (hE:yX P T) {S:nF} (hS:pL P S) {D:nO} {f:FuncId} {fn:Func} {code:Code} {n:Nat} {ps:List AP} {rs:List RP} {L:qN (aO (eE rs (cU ps)))} {okD:Nat→Array Oper→Prop}
  {t:aO (aM (ps.map some))→Option (aO (eE rs (cU ps)))}
  (hf:P.funcs[f]?=some fn) (hb:fn.body=some code) (hn:fn.ntmps=n) (hps:ps.length≤n) (xa:iK n code=true) (MD:∀tm,Dh T tm fn.results.toList rs)
  (hL:∀(w0:World) (mu:Mu) (y:aO (eE rs (cU ps))),qg ps mu→fY (qt P w0 mu n L y) code)
  (hD:∀(w0:World) (mu:Mu),vE (aO (eE rs (cU ps))) P T S D w0 mu n okD) (hD2:gC okD code)
  (QI:∀(w0:World) (mu:Mu) (c:Cz) (a:Act) (w:World) x,Rel w0 mu c (start n ps x) a w→a.tmps.size=n→∃c2 mq,Rel w0 mu c2 mq a w∧ib T S D L code mq (FE rs ps)=t x):FnOk P f (ow ps rs t):=by
 intro c w mu lc gq args A y hH hA hs ho;unfold ow at hs
 cases hx:iE ps gq with
 |none=>rw [hx] at hs;cases hs
 |some x=>
  rw [hx] at hs;simp only [Option.some.injEq] at hs;subst hs;have Hu:t x=some y:=ho;obtain ⟨Ht,c',hm,je,Ip,SH,Io,Uc,hR⟩:=OF hH hA hx hps;refine calls_of_wp hf hb ?_;rw [hn];have qY:(args++Array.replicate (n-args.size) undef).size=n:=by simp;omega
  obtain ⟨c2,mq,hR2,aj9⟩:=QI w Ht c' _ w x hR qY;refine Ek (rn hT hE hS w Ht n) (hD w Ht) code xa (hL w Ht y Ip) hD2 (fun {e} {c1} {HP} {a1} {w1} h1 h2 h3 => ?_) hR2 qY (aj9.trans Hu);obtain ⟨he,v,vY,c2,Ie,hV,hX⟩:=QH (P:=P) hT hm je h1 (MD a1.tmps) Uc.symm (by rw [←Io];simp) SH h3;have Ih:a1.defers=[]∧∃v,(results fn a1.tmps).run P w1=.ok v w1∧(∃v',Ending.returned v=.returned v'∧∃c',Fx w mu c' w1∧wa c' w1 (jg rs (cU ps) y).1 v'∧kN c' w1 lc 0 gq args.toList (qy ps (jg rs (cU ps) y).2)):=
   ⟨h1.plain,v,vY,v,rfl,c2,Ie,hV,hX⟩
  rcases he with rfl | rfl<;>exact Ih
theorem aka {P:Program} {T:pA} (hT:j7 P T) (hE:yX P T) {S:nF} (hS:pL P S) {D:nO} {f:FuncId} {fn:Func} {code:Code} {n:Nat} {ps:List AP} {rs:List RP} {L:qN (aO (eE rs (cU ps)))} {okD:Nat→Array Oper→Prop}
  {t:aO (aM (ps.map some))→Option (aO (eE rs (cU ps)))}
  (hf:P.funcs[f]?=some fn) (hb:fn.body=some code) (hn:fn.ntmps=n) (hps:ps.length≤n) (xa:iK n code=true) (MD:∀tm,Dh T tm fn.results.toList rs)
  (hL:∀(w0:World) (mu:Mu) (y:aO (eE rs (cU ps))),qg ps mu→fY (qt P w0 mu n L y) code)
  (hD:∀(w0:World) (mu:Mu),vE (aO (eE rs (cU ps))) P T S D w0 mu n okD) (hD2:gC okD code)
  (QI:∀x,ib T S D L code (start n ps x) (FE rs ps)=t x):FnOk P f (ow ps rs t):=
 OG hT hE hS hf hb hn hps xa MD hL hD hD2 (fun _ _ c _ _ x h _=>⟨c,_,h,QI x⟩)
end Go.TM
namespace Go.TM
open Go Go.RowKit
def iter {X E:Type} (round:X→Option (Sum X E)):Nat→X→Option E
 |0,_=>none
 |n+1,x=>match round x with
  |some (.inl y)=>iter round n y
  |some (.inr e)=>some e
  |none=>none
theorem FF {X E:Type} {round:X→Option (Sum X E)}:(n:Nat)→{x:X}→{e:E}→iter round n x=some e→∀m,n≤m→iter round m x=some e
 |0,_,_,h,_,_=>by cases h
 |n+1,x,e,h,0,hm=>by omega
 |n+1,x,e,h,m+1,hm=>by
  unfold iter at h ⊢
  cases hr:round x with
  |none=>rw [hr] at h;cases h
  |some z=>cases z with
   |inl y=>rw [hr] at h;exact FF n h m (by omega)
   |inr e'=>rw [hr] at h;exact h
noncomputable def aI {X E:Type} (round:X→Option (Sum X E)) (x:X):Option E:=
 have:=Classical.propDecidable (∃e n,iter round n x=some e)
 if h:∃e n,iter round n x=some e then some (Classical.choose h) else none
theorem Iq {X E:Type} {round:X→Option (Sum X E)} {x:X} {e:E} {n:Nat} (h:iter round n x=some e):aI round x=some e:=by
 have hex:∃e n,iter round n x=some e:=⟨e,n,h⟩;unfold aI;simp only;rw [dif_pos hex];obtain ⟨m,hm⟩:=Classical.choose_spec hex;have h1:=FF m hm (max m n) (Nat.le_max_left _ _);have h2:=FF n h (max m n) (Nat.le_max_right _ _);rw [h1] at h2;exact h2
theorem za {X E:Type} {round:X→Option (Sum X E)} {x:X} {e:E} (h:aI round x=some e):∃n,iter round n x=some e:=by
 unfold aI at h;simp only at h
 split at h
 ·rename_i hex;injection h with h;rw [←h];exact Classical.choose_spec hex
 ·cases h
theorem lP {X E:Type} (round:X→Option (Sum X E)) (x:X):aI round x=match round x with | some (.inl y)=>aI round y | some (.inr e)=>some e | none=>none:=by
 cases hr:round x with
 |none=>
  cases h:aI round x with
  |none=>rfl
  |some e=>
   obtain ⟨n,hn⟩:=za h
   cases n with
   |zero=>cases hn
   |succ n=>unfold iter at hn;rw [hr] at hn;cases hn
 |some z=>cases z with
  |inr e=>exact Iq (n:=1) (by unfold iter;rw [hr])
  |inl y=>
   simp only
   cases h:aI round y with
   |some e=>
    obtain ⟨n,hn⟩:=za h;exact Iq (n:=n+1) (by unfold iter;rw [hr];exact hn)
   |none=>
    cases h2:aI round x with
    |none=>rfl
    |some e=>
     obtain ⟨n,hn⟩:=za h2
     cases n with
     |zero=>cases hn
     |succ n=>
      unfold iter at hn;rw [hr] at hn;rw [Iq hn] at h
      cases h
def Ez (st:St) (hp:List (Option AP)):Option (aO (aM hp)):=
 (rp st 0 hp).bind fun q=>bif yP q.2.1&&apart q.2.1 q.2.2 then some q.1 else none
def qz (hp:List (Option AP)) (x:aO (aM hp)):St:=sk 0 (ef hp x)
def iL:List AP→List (Option AP)→Bool
 | [],_=>true
 |.val _ _::ps,_::hp=>iL ps hp
 |.io _ _::ps,o::hp=>(match o with | none=>true | some (.io _ _)=>true | _=>false)&&iL ps hp
 |.box _ _::ps,o::hp=>(match o with | none=>true | some (.box l _)=>l | some (.val _ _)=>true | _=>false)&&iL ps hp
 |.dX _::_,_::_=>false
 |_::_,[]=>false
theorem zb:(ps:List AP)→(hp:List (Option AP))→iL ps hp=true→∀(i:Nat) (p:AP),ps[i]?=some p→∃o,hp[i]?=some o∧match p with
  |.val _ _=>True
  |.io _ _=>o=none∨∃r d,o=some (.io r d)
  |.box _ _=>o=none∨(∃a b,o=some (.val a b))∨∃b,o=some (.box true b)
  |.dX _=>False
 | [],_,_=>by intro i p h;simp at h
 |p::ps,[],h=>by cases p<;>simp [iL] at h
 |p::ps,o::hp,h=>by
  intro i p' hi;have ic:iL ps hp=true:=by
   cases p with
   |val _ _=>exact h
   |io _=>unfold iL at h;rw [Bool.and_eq_true] at h;exact h.2
   |dX _=>cases h
   |box _ _=>unfold iL at h;rw [Bool.and_eq_true] at h;exact h.2
  cases i with
  |succ i=>exact (zb ps hp ic i p' (by simpa using hi)).imp fun o ho=>⟨by simpa using ho.1,ho.2⟩
  |zero=>
   simp only [List.getElem?_cons_zero,Option.some.injEq] at hi;subst hi;refine ⟨o,rfl,?_⟩
   cases p with
   |val _ _=>trivial
   |dX _=>cases h
   |io _=>
    unfold iL at h;rw [Bool.and_eq_true] at h
    cases o with
    |none=>exact .inl rfl
    |some q=>cases q with
     |io r d=>exact .inr ⟨r,d,rfl⟩
     |val _ _=>cases h.1
     |box _ _=>cases h.1
     |dX _=>cases h.1
   |box _ _=>
    unfold iL at h;rw [Bool.and_eq_true] at h
    cases o with
    |none=>exact .inl rfl
    |some q=>cases q with
     |io r d=>cases h.1
     |dX _=>cases h.1
     |val a b=>exact .inr (.inl ⟨a,b,rfl⟩)
     |box l b=>
      have:l=true:=h.1;subst this;exact .inr (.inr ⟨b,rfl⟩)
end Go.TM
namespace Go.TM
open Go Go.RowKit
theorem Xn {st:St} {k:Nat} {rr:RT} {dd:Md} {t:RT} {V:V} {y:aO t} {x:aO (.cons (.sl rr) t)} {u:List Lb} {r:List (Nat×Nat)} (h:GC st k (.io rr dd) t V y=some (x,u,r)):∃A,cT st k 0 1=some A∧ek rr A.xs=some x.1:=by
 cases V with
 |agg _=>cases h
 |rb _=>cases h
 |one cx=>cases cx with
  |ref a j g vw=>cases vw with
   |full=>
    have h:(bif Nat.beq a k&&(Nat.beq j 0&&Nat.beq g 1) then ((cT st a j g).bind fun A=>bif A.own&&A.md.is dd then (ek rr A.xs).map fun xs=>((xs,y),[Lb.sp a j],([]:List (Nat×Nat))) else none) else none)=some (x,u,r):=h;obtain ⟨h1,h2⟩:=bM h;rw [Bool.and_eq_true,Bool.and_eq_true] at h1;have e1:=Nat.eq_of_beq_eq_true h1.1;have e2:=Nat.eq_of_beq_eq_true h1.2.1;have e3:=Nat.eq_of_beq_eq_true h1.2.2;subst e1 e2 e3;obtain ⟨A,hA,h3⟩:=Option.bind_eq_some_iff.1 h2;obtain ⟨_,h4⟩:=bM h3;obtain ⟨xs,hxs,e⟩:=Option.map_eq_some_iff.1 h4;injection e with e _;exact ⟨A,hA,by rw [hxs,←e];rfl⟩
   |«from» _=>cases h
   |sub _ _=>cases h
  |_=>cases h
theorem Uf {st:St} {k:Nat} {qs:List OP} {t:RT} {V:V} {y:aO t} {x:aO (pZ qs t)} {u:List Lb} {r:List (Nat×Nat)} (h:GC st k (.box true qs) t V y=some (x,u,r)):V=.one (.ptr k 1 0)∧∃cs,gi st k 1=some cs:=by
 cases V with
 |agg _=>cases h
 |rb _=>cases h
 |one cx=>cases cx with
  |ptr b g off=>
   have h:(bif Nat.beq off 0&&(!true||(Nat.beq b k&&Nat.beq g 1)) then ((gi st b g).bind fun cs=>(ou st qs t cs y).map fun q=>(q.1,Lb.box b::dS q.2.1,q.2.2)) else none)=some (x,u,r):=h;obtain ⟨h1,h2⟩:=bM h;simp only [Bool.not_true,Bool.false_or] at h1;rw [Bool.and_eq_true,Bool.and_eq_true] at h1;have e1:=Nat.eq_of_beq_eq_true h1.1;have e2:=Nat.eq_of_beq_eq_true h1.2.1;have e3:=Nat.eq_of_beq_eq_true h1.2.2;subst e1 e2 e3;obtain ⟨cs,yL,_⟩:=Option.bind_eq_some_iff.1 h2;exact ⟨rfl,cs,yL⟩
  |_=>cases h
theorem Bu {w0:World} {mu:Mu} {c:Cz} {st:St} {a:Act} {w:World} (h:Rel w0 mu c st a w):(l:List (Option AP))→(k:Nat)→{x:aO (aM l)}→{u:List Lb}→{r:List (Nat×Nat)}→rp st k l=some (x,u,r)→∀(i:Nat),
  (∀rr dd,l[i]?=some (some (.io rr dd))→∃B A:nY,(ef l x)[i]?=some (some (.io B))∧cT st (k+i) 0 1=some A∧B.r.width=A.r.width∧B.xs.length=A.xs.length)∧
  (∀qs,l[i]?=some (some (.box true qs))→(∃cs,gi st (k+i) 1=some cs)∧dR st (k+i)=.one (.ptr (k+i) 1 0))∧
  (l[i]?=some none→(ef l x)[i]?=some none)∧(∀ag b,l[i]?=some (some (.val ag b))→∃os,(ef l x)[i]?=some (some (.val ag os)))
 | [],k,x,u,r,he=>by intro i;simp
 |none::l,k,x,u,r,he=>by
  intro i
  cases i with
  |zero=>exact ⟨fun _ _ h=>by simp at h,fun _ h=>by simp at h,fun _=>rfl,fun _ _ h=>by simp at h⟩
  |succ i=>
   have:=Bu h l (k+1) he i;rw [show k+1+i=k+(i+1) by omega] at this;exact this
 |some p::l,k,x,u,r,he=>by
  intro i;unfold rp at he
  cases h1:rp st (k+1) l with
  |none=>simp [h1] at he
  |some q1=>
   obtain ⟨y,us,rs⟩:=q1;simp only [h1] at he
   cases h2:GC st k p (aM l) (dR st k) y with
   |none=>simp [h2] at he
   |some q2=>
    obtain ⟨x1,u1,r1⟩:=q2;simp only [h2] at he;injection he with he;injection he with e1 e2;subst e1
    cases i with
    |succ i=>
     have hh:=Bu h l (k+1) h1 i;rw [show k+1+i=k+(i+1) by omega] at hh;have e:(p.av (aM l) x1).2=y:=(Ev h k (h.jy k) h2).1;have e2:(ef (some p::l) x1)[i+1]?=(ef l y)[i]?:=by
      show (ef l (p.av (aM l) x1).2)[i]?=_;rw [e]
     rw [e2];exact hh
    |zero=>
     have e2:(ef (some p::l) x1)[0]?=some (some (p.av (aM l) x1).1):=rfl;rw [e2];simp only [List.getElem?_cons_zero,Option.some.injEq,Nat.add_zero];refine ⟨fun rr dd e => ?_,fun qs e => ?_,(fun e=>by cases e),fun ag b e => ?_⟩
     ·subst e;obtain ⟨A,hA,hc⟩:=Xn h2;obtain ⟨er,Wp⟩:=dh hc;refine ⟨_,A,rfl,hA,by show rr.width=_;rw [←er],?_⟩;show List.length (x1.1:List (aO rr))=_;rw [Wp]
      cases er
      rfl
     ·subst e;obtain ⟨q1,q2⟩:=Uf h2;exact ⟨q2,q1⟩
     ·subst e;exact ⟨_,rfl⟩
end Go.TM
namespace Go.TM
open Go Go.RowKit
theorem FG {w0:World} {mu:Mu} {c:Cz} {st:St} {a:Act} {w:World} (h:Rel w0 mu c st a w) {ps:List AP} (hs:qg ps mu) {hp:List (Option AP)} (qZ:iL ps hp=true) {x:aO (aM hp)} (hx:Ez st hp=some x):∃c',Rel w0 mu c' (qz hp x) a w:=by
 obtain ⟨q,hq,Qw⟩:=Option.bind_eq_some_iff.1 hx;obtain ⟨tV,MH⟩:=bM Qw;injection MH with MH;obtain ⟨x0,u,r⟩:=q;subst MH;rw [Bool.and_eq_true] at tV;obtain ⟨GB,tb,W7,ajX,hold⟩:=Bt h hp 0 hq;have Wq:=Bu h hp 0 hq;have hnd:=tc _ GB tV.1;have hap:∀p∈r,Lb.sp p.1 p.2∉u:=by
  intro p hp hm;have h1:=List.all_eq_true.1 tV.2 p hp;have h2:=List.all_eq_true.1 h1 _ hm;rw [(Lb.En rfl).2 rfl] at h2
  cases h2
 have AG:=Classical.propDecidable
 let ρ:Lb→Option Lb:=fun l=>match look tb l with | some y=>some y | none=>if l=.out then some .out else none
 have hρt:∀p∈tb,ρ p.1=some p.2:=by
  intro p hp;have:=Eo tb (by rw [W7];exact hnd) hp;show (match look tb p.1 with | some y=>some y | none=>_)=_;rw [this]
 have Eu:∀ {l y},look tb l=some y→l∈u:=by
  intro l y hl;have:=Cr tb hl;rw [←W7];exact List.mem_map.2 ⟨_,this,rfl⟩
 have hρr:∀p∈r,ρ (.sp p.1 p.2)=none:=by
  intro p hp;show (match look tb (.sp p.1 p.2) with | some y=>some y | none=>if Lb.sp p.1 p.2=.out then some Lb.out else none)=none
  cases hl:look tb (.sp p.1 p.2) with
  |some y=>exact absurd (Eu hl) (hap p hp)
  |none=>simp
 have hρo:ρ .out=some .out:=by
  show (match look tb Lb.out with | some y=>some y | none=>if Lb.out=Lb.out then some Lb.out else none)=_
  cases hl:look tb Lb.out with
  |some y=>have:=GB _ (Eu hl);cases this
  |none=>simp
 have FB:Fx w0 mu (c.map ρ) w:=by
  refine ⟨fun b l hb => ?_,fun b hb hn => ?_,h.kept,h.old⟩
  ·obtain ⟨k,hk,e⟩:=Cz.map_some hb;obtain ⟨g1,g2⟩:=h.owned b k hk;refine ⟨g1,g2.imp (fun e2 => ?_) id⟩;subst e2;rw [hρo] at e
   cases e;rfl
  ·cases hk:c.own b with
   |none=>exact h.free b hb hk
   |some k=>
    have e:ρ k=none:=(Cz.o7 (ρ:=ρ) hk).symm.trans hn;rcases (h.owned b k hk).2 with g | g | g
    ·subst g;rw [hρo] at e;cases e
    ·exact absurd g (Nat.not_le_of_lt hb)
    ·exact .inl g
 refine Rel.SE FB h.plain (hold ρ hρt hρr) (fun p hpm => ?_);have han:=h.iC p hpm;have hlen:∀(i:Nat) (o:Option AP),hp[i]?=some o→i<(ef hp x0).length:=fun i o ho=>by rw [u0];exact (List.getElem?_eq_some_iff.1 ho).1
 rcases hs p hpm with ⟨i,rr,W,n,l,rfl,dd,hpi⟩ | ⟨i,sj,b,qs,rfl,hpi⟩ | ⟨i,j,W,n,l,qs,rfl,hpi⟩
 ·obtain ⟨o,ho,Z0⟩:=zb ps hp qZ i _ hpi;refine ⟨rfl,hlen i o ho,fun av Ow=>.inl ?_⟩;rcases Z0 with rfl | ⟨r2,d2,rfl⟩
  ·rw [(Wq i).2.2.1 ho] at Ow;cases Ow
  ·obtain ⟨B,A,e1,e2,e3,e4⟩:=(Wq i).1 r2 d2 ho;rw [e1] at Ow;simp only [Option.some.injEq] at Ow;rw [Nat.zero_add] at e2;obtain ⟨f1,f2,f3⟩:=han.2 A e2;exact ⟨B,Ow.symm,fun _=>⟨e3.trans f1,e4.trans f2,f3⟩⟩
 ·obtain ⟨o,ho,Z0⟩:=zb ps hp qZ i _ hpi;refine ⟨rfl,hlen i o ho,fun os ye => ?_⟩;rcases Z0 with rfl | ⟨a1,b1,rfl⟩ | ⟨b1,rfl⟩
  ·rw [(Wq i).2.2.1 ho] at ye;cases ye
  ·obtain ⟨Fp,e⟩:=(Wq i).2.2.2 a1 b1 ho;rw [e] at ye;cases ye
  ·obtain ⟨⟨cs,yL⟩,hv⟩:=(Wq i).2.1 b1 ho;rw [Nat.zero_add] at yL hv;have yi:=h.jy i;rw [hv] at yi;rw [yi.2.2 cs yL,han.2 cs yL]
 ·obtain ⟨o,ho,Z0⟩:=zb ps hp qZ i _ hpi;exact Z0.elim
def FH (id:Nat) (hp e0 e1:List (Option AP)):Ex→St→Option (Sum (aO (aM hp)) (Sum (aO (aM e0)) (aO (aM e1))))
 |.normal,st=>(Ez st hp).map .inl
 |.exit m,st=>bif Nat.beq m id then (Ez st e0).map fun y=>.inr (.inl y) else none
 |.ret,st=>(Ez st e1).map fun y=>.inr (.inr y)
noncomputable def FI {R:Type} (hp e0 e1:List (Option AP)) (round:aO (aM hp)→Option (Sum (aO (aM hp)) (Sum (aO (aM e0)) (aO (aM e1))))) (st:St) (k:Ex→St→Option R):Option R:=
 (Ez st hp).bind fun x=>(aI round x).bind fun z=>match z with
  |.inl y=>k .normal (qz e0 y)
  |.inr y=>k .ret (qz e1 y)
theorem aaB {R:Type} {P:Program} {T:pA} {S:nF} {D:nO} {n id:Nat} {w0:World} {mu:Mu} {ps:List AP} {hp e0 e1:List (Option AP)} {b:Code} {r:R} {L:qN R} {okD:Nat→Array Oper→Prop}
  {L':qN (Sum (aO (aM hp)) (Sum (aO (aM e0)) (aO (aM e1))))} {round:aO (aM hp)→Option (Sum (aO (aM hp)) (Sum (aO (aM e0)) (aO (aM e1))))}
  (Kk:xo P T S w0 mu n) (hD:vE (Sum (aO (aM hp)) (Sum (aO (aM e0)) (aO (aM e1)))) P T S D w0 mu n okD) (hs:qg ps mu) (hf:(iL ps hp&&(iL ps e0&&iL ps e1))=true) (xa:iK n b=true) (hD2:gC okD b)
  (Hf:∀z,fY (qt P w0 mu n L' z) b) (QJ:∀x,ib T S D L' b (qz hp x) (FH id hp e0 e1)=round x) (hL:∀st k,L id b st k=FI hp e0 e1 round st k):qt P w0 mu n L r id b:=by
 intro k Q hk c st a w h hn hv;rw [Bool.and_eq_true,Bool.and_eq_true] at hf;rw [hL] at hv;unfold FI at hv;obtain ⟨x,hx,hv⟩:=Option.bind_eq_some_iff.1 hv;obtain ⟨z,hz,hv⟩:=Option.bind_eq_some_iff.1 hv;obtain ⟨c1,h1⟩:=FG h hs hf.1 hx;obtain ⟨m,hm⟩:=za hz;refine wp_block ?_;refine wp_loop_ghost (fun m a w=>∃x c,Rel w0 mu c (qz hp x) a w∧a.tmps.size=n∧iter round m x=some z) m ⟨x,c1,h1,hn,hm⟩ ?_
 rintro m a w ⟨x,c,hR,hn,hi⟩
 cases m with
 |zero=>cases hi
 |succ m=>
  unfold iter at hi
  cases hr:round x with
  |none=>rw [hr] at hi;cases hi
  |some y=>
   rw [hr] at hi;refine Ek Kk hD b xa (Hf y) hD2 (fun {e} {c2} {mq} {a2} {w2} g1 g2 g3 => ?_) hR hn ((QJ x).trans hr)
   cases e with
   |normal=>
    obtain ⟨x2,q1,rfl⟩:=Option.map_eq_some_iff.1 g3;obtain ⟨c3,g4⟩:=FG g1 hs hf.1 q1;exact ⟨m,Nat.lt_succ_self m,x2,c3,g4,g2,hi⟩
   |exit m'=>
    obtain ⟨mS,g5⟩:=bM g3;have mS:=Nat.eq_of_beq_eq_true mS;subst mS;obtain ⟨x2,q1,rfl⟩:=Option.map_eq_some_iff.1 g5;injection hi with hi;subst hi;obtain ⟨c3,g4⟩:=FG g1 hs hf.2.1 q1;show (if m'=m' then Q .normal a2 w2 else Q (.exit m') a2 w2);rw [if_pos rfl];exact hk g4 g2 hv
   |ret=>
    obtain ⟨x2,q1,rfl⟩:=Option.map_eq_some_iff.1 g3;injection hi with hi;subst hi;obtain ⟨c3,g4⟩:=FG g1 hs hf.2.2 q1;exact hk g4 g2 hv
end Go.TM
namespace Go.TM
open Go Go.RowKit
section
variable {P:Program} {ops:Array Oper} {Q:Exit→Act→World→Prop} {md:Region.Mode} {ds:List Nat}
def xQ (md:Region.Mode) (ops:Array Oper) (i:Nat):Nat→Nat→Bool
 |0,_=>false
 |fuel+1,d=>match ops[d]? with
  |some o=>o.after.any fun e=>Region.binds md e&&(e.on==i||xQ md ops i fuel e.on)
  |none=>false
def xR (md:Region.Mode) (ops:Array Oper) (bG:Array Bool):Prop:=
 ∀j oj,ops[j]?=some oj→bG.getD j false=true→∀e∈oj.after,Region.binds md e=true→bG.getD e.on false=true
theorem xR.set {bG:Array Bool} {i:Nat} (h:xR md ops bG) (hi:i∈Region.ready md ops bG):xR md ops (bG.setIfInBounds i true):=by
 obtain ⟨_,oi,SI,sw⟩:=mem_ready.1 hi;intro j oj hj hl e he hb
 by_cases Z1:i=j
 ·subst Z1;have:oj=oi:=Option.some.inj (hj.symm.trans SI);subst this;exact getD_set_true (sw e he hb)
 ·rw [getD_set_ne false Z1] at hl;exact getD_set_true (h j oj hj hl e he hb)
theorem xR.none (md:Region.Mode) (ops:Array Oper) (n:Nat):xR md ops (Array.replicate n false):=by
 intro j oj _ hl;simp [Array.getD_eq_getD_getElem?,Array.getElem?_replicate] at hl
 split at hl<;>simp at hl
theorem EA {bG:Array Bool} {i:Nat} (hc:xR md ops bG):∀(fuel d:Nat),xQ md ops i fuel d=true→bG.getD d false=true→bG.getD i false=true
 |0,_,h,_=>by simp [xQ] at h
 |fuel+1,d,h,hl=>by
  unfold xQ at h
  cases ho:ops[d]? with
  |none=>rw [ho] at h;simp at h
  |some o=>
   rw [ho] at h;obtain ⟨e,he,h1⟩:=Array.any_eq_true'.1 h;simp only [Bool.and_eq_true,Bool.or_eq_true,beq_iff_eq] at h1;have hle:=hc d o ho hl e he h1.1;rcases h1.2 with h2 | h2
   ·rw [←h2];exact hle
   ·exact EA hc fuel e.on h2 hle
theorem Hg {bG:Array Bool} {i d fuel:Nat} (hc:xR md ops bG) (hr:xQ md ops i fuel d=true) (NZ:bG.getD i true=false):d∉Region.ready md ops bG:=by
 intro hd;obtain ⟨_,o,ho,sw⟩:=mem_ready.1 hd;have hi:bG.getD i false=true:=by
  cases fuel with
  |zero=>simp [xQ] at hr
  |succ n=>
   unfold xQ at hr;rw [ho] at hr;obtain ⟨e,he,h1⟩:=Array.any_eq_true'.1 hr;simp only [Bool.and_eq_true,Bool.or_eq_true,beq_iff_eq] at h1;have hle:=sw e he h1.1;rcases h1.2 with h2 | h2
   ·rw [←h2];exact hle
   ·exact EA hc n e.on h2 hle
 rcases Nat.lt_or_ge i bG.size with h' | h'
 ·simp [h'] at NZ hi;rw [NZ] at hi
  cases hi
 ·simp [Array.getElem?_eq_none h'] at NZ
def sy (P:Program) (md:Region.Mode) (ops:Array Oper) (Q:Exit→Act→World→Prop) (ds:List Nat):Nat→Array Bool→Act→World→Prop
 |0,bG,a,w=>Region.ready md ops bG=[]∧Q .normal a w
 |fuel+1,bG,a,w=>
  (Region.ready md ops bG=[]→Q .normal a w)∧
  ∀i∈Region.ready md ops bG,wpOp P ops Q i (fun a' w'=>(i∉ds→lM w w')∧sy P md ops Q ds fuel (bG.setIfInBounds i true) a' w') a w
theorem C4:∀(fuel:Nat) (bG:Array Bool) (a:Act) (w:World),sy P md ops Q ds fuel bG a w→wpAny P md ops Q fuel bG a w
 |0,_,_,_,h=>h
 |fuel+1,_,_,_,h=>⟨h.1,fun i hi=>wpOp_mono (fun a' w' h'=>C4 fuel _ a' w' h'.2) (h.2 i hi)⟩
theorem MK {i:Nat} {oi:Oper} {v:Value} {w0:World} (hi:ops[i]?=some oi) (OH:∀(j:Nat) (o:Oper) cs b,ops[j]?=some o→o.op≠.select cs b)
  (hQ:∀c a w,Q (.panic c) (a.put oi.dst v) w→Q (.panic c) a w) (n:Nat) :
  ∀(fuel:Nat) (bG:Array Bool) (a:Act) (w:World),
   (∀j oj,ops[j]?=some oj→j≠i→bG.getD j true=false→(∀e∈oj.after,Region.binds md e=true→e.on≠i)→oi.apart ops oj=true)→
   xR md ops bG→(∀d∈ds,bG.getD d true=false→xQ md ops i n d=true)→
   i∈Region.ready md ops bG→YieldsIf P ops (lM w0) oi v a→lM w0 w→
   sy P md ops Q ds fuel (bG.setIfInBounds i true) (a.put oi.dst v) w→sy P md ops Q ds (fuel+1) bG a w:=by
 intro fuel
 induction fuel with
 |zero=>
  intro bG a w _ _ _ hr hy hS H;refine ⟨fun h=>(by rw [h] at hr;cases hr),fun j hj => ?_⟩
  by_cases Kc:j=i
  ·subst Kc;exact hy.wpOp hi hS ⟨fun _=>lM.refl w,H⟩
  ·have:=ready_mono hj Kc;rw [H.1] at this
   cases this
 |succ fuel ih=>
  intro bG a w H3 hc hd hr hy hS H;refine ⟨fun h=>(by rw [h] at hr;cases hr),fun j hj => ?_⟩
  by_cases Kc:j=i
  ·subst Kc;exact hy.wpOp hi hS ⟨fun _=>lM.refl w,H⟩
  ·have h1:=H.2 j (ready_mono hj Kc);obtain ⟨QK,oj,hoj,sw⟩:=mem_ready.1 hj;have Ug:=(mem_ready.1 hr).1;have adn:∀e∈oj.after,Region.binds md e=true→e.on≠i:=fun e he hb heq=>by
    have h1:=sw e he hb;rw [heq] at h1;rcases Nat.lt_or_ge i bG.size with h' | h'
    ·simp [h'] at Ug h1;rw [Ug] at h1;cases h1
    ·simp [Array.getElem?_eq_none h'] at h1
   have hjd:j∉ds:=fun hm=>Hg hc (hd j hm QK) Ug hj
   have h2:=wpOp_putIf hoj (H3 j oj hoj Kc QK adn) (fun cs b=>OH i oi cs b hi) (fun cs b=>OH j oj cs b hoj) hQ hy h1;have QL:∀k ok,ops[k]?=some ok→k≠i→(bG.setIfInBounds j true).getD k true=false→
     (∀e∈ok.after,Region.binds md e=true→e.on≠i)→oi.apart ops ok=true:=fun k ok hk hki NZ Z2=>by
    refine H3 k ok hk hki ?_ Z2
    by_cases N0:j=k
    ·subst N0;exact QK
    ·rw [getD_set_ne true N0] at NZ;exact NZ
   have Wo:∀d∈ds,(bG.setIfInBounds j true).getD d true=false→xQ md ops i n d=true:=fun d hm NZ=>by
    refine hd d hm ?_
    by_cases N0:j=d
    ·subst N0;exact QK
    ·rw [getD_set_ne true N0] at NZ;exact NZ
   refine wpOp_mono (fun a' w' h3=>⟨h3.2.1,ih (bG.setIfInBounds j true) a' w' QL (hc.set hj) Wo (ready_mono hr (Ne.symm Kc)) h3.1 (hS.trans (h3.2.1 hjd)) ?_⟩) h2;rw [Array.setIfInBounds_comm _ _ Kc];exact h3.2.2
theorem QM {i:Nat} {oi:Oper} {v:Value} (hi:ops[i]?=some oi) (OH:∀(j:Nat) (o:Oper) cs b,ops[j]?=some o→o.op≠.select cs b)
  (hQ:∀c a w,Q (.panic c) (a.put oi.dst v) w→Q (.panic c) a w) :
  ∀(fuel:Nat) (bG:Array Bool) (a:Act) (w:World),
   (∀j oj,ops[j]?=some oj→j≠i→bG.getD j true=false→(∀e∈oj.after,Region.binds md e=true→e.on≠i)→oi.apart ops oj=true)→
   i∈Region.ready md ops bG→Yields P ops oi v a→
   sy P md ops Q ds fuel (bG.setIfInBounds i true) (a.put oi.dst v) w→sy P md ops Q ds (fuel+1) bG a w:=by
 intro fuel
 induction fuel with
 |zero=>
  intro bG a w _ hr hy H;refine ⟨fun h=>(by rw [h] at hr;cases hr),fun j hj => ?_⟩
  by_cases Kc:j=i
  ·subst Kc;exact (hy.yieldsIf (S:=fun _=>True)).wpOp hi trivial ⟨fun _=>lM.refl w,H⟩
  ·have:=ready_mono hj Kc;rw [H.1] at this
   cases this
 |succ fuel ih=>
  intro bG a w H3 hr hy H;refine ⟨fun h=>(by rw [h] at hr;cases hr),fun j hj => ?_⟩
  by_cases Kc:j=i
  ·subst Kc;exact (hy.yieldsIf (S:=fun _=>True)).wpOp hi trivial ⟨fun _=>lM.refl w,H⟩
  ·have h1:=H.2 j (ready_mono hj Kc);obtain ⟨QK,oj,hoj,sw⟩:=mem_ready.1 hj;have Ug:=(mem_ready.1 hr).1;have adn:∀e∈oj.after,Region.binds md e=true→e.on≠i:=fun e he hb heq=>by
    have h1:=sw e he hb;rw [heq] at h1;rcases Nat.lt_or_ge i bG.size with h' | h'
    ·simp [h'] at Ug h1;rw [Ug] at h1;cases h1
    ·simp [Array.getElem?_eq_none h'] at h1
   have h2:=wpOp_put hoj (H3 j oj hoj Kc QK adn) (fun cs b=>OH i oi cs b hi) (fun cs b=>OH j oj cs b hoj) hQ hy h1;have QL:∀k ok,ops[k]?=some ok→k≠i→(bG.setIfInBounds j true).getD k true=false→
     (∀e∈ok.after,Region.binds md e=true→e.on≠i)→oi.apart ops ok=true:=fun k ok hk hki NZ Z2=>by
    refine H3 k ok hk hki ?_ Z2
    by_cases N0:j=k
    ·subst N0;exact QK
    ·rw [getD_set_ne true N0] at NZ;exact NZ
   refine wpOp_mono (fun a' w' h3=>⟨h3.2.1,ih (bG.setIfInBounds j true) a' w' QL (ready_mono hr (Ne.symm Kc)) h3.1 ?_⟩) h2;rw [Array.setIfInBounds_comm _ _ Kc];exact h3.2.2
end
end Go.TM
namespace Go.TM
open Go Go.RowKit
def Di (i:Nat):List Nat→Bool
 | []=>false
 |x::l=>Nat.beq x i||Di i l
def upB (ops:List Oper) (ls:List Nat) (j:Nat):Bool:=
 match nth ops j with
 |some o => !Di j ls&&o.after.toList.all fun e => !Region.binds .any e||Di e.on ls
 |none=>false
def SJ (ops:Array Oper) (OI:List Oper) (n:Nat) (ls:List Nat) (i:Nat):Bool:=
 match nth OI i with
 |some oi=>(List.range n).all fun j=>Nat.beq j i||(Di j ls||match nth OI j with
  |some oj=>(oj.after.toList.any fun e=>Region.binds .any e&&Nat.beq e.on i)||oi.apart ops oj
  |none=>true)
 |none=>false
def ML (OI:List Oper) (n:Nat) (ls:List Nat) (i:Nat):Bool:=(List.range n).all fun j=>Nat.beq j i || !upB OI ls j
def Pl.ef:Pl→List Nat
 |.nil=>[]
 |.op i _ _=>[i]
 |.alt p q=>p.ef++q.ef
def Xo (OI:List Oper) (n:Nat) (ls hs:List Nat):Bool:=(List.range n).all fun j => !upB OI ls j||Di j hs
def oz (ops:Array Oper) (OI:List Oper) (n:Nat) (ds:List Nat):Bool→List Nat→Pl→Bool
 |al,ls,.nil => !al&&(List.range n).all fun j => !upB OI ls j
 |al,ls,.op i kd r=>upB OI ls i&&((match kd with
   |.any => !al&&SJ ops OI n ls i
   |.take => !al&&(SJ ops OI n ls i&&ds.all fun d=>Di d ls||xQ .any ops i n d)
   |.one=>al||ML OI n ls i
   |.last=>(al||ML OI n ls i)&&Di i ds)&&oz ops OI n ds false (i::ls) r)
 |al,ls,.alt p q=>(al||Xo OI n ls (p.ef++q.ef))&&(oz ops OI n ds true ls p&&oz ops OI n ds true ls q)
def Lq:Pl→List Nat
 |.nil=>[]
 |.op i .last l=>i::Lq l
 |.op _ _ l=>Lq l
 |.alt p q=>Lq p++Lq q
def Pl.depth:Pl→Nat
 |.nil=>0
 |.op _ _ l=>l.depth+1
 |.alt p q=>Nat.max p.depth q.depth
def Ir (ops:Array Oper) (l:Pl):Bool:=
 Region.noSelect ops&&(Nat.ble l.depth ops.size&&oz ops ops.toList ops.size (Lq l) false [] l)
structure Z3 (n:Nat) (ls:List Nat) (bG:Array Bool):Prop where
 size:bG.size=n
 gf:∀j,bG.getD j false=Di j ls
 gt:∀j,bG.getD j true=(Di j ls||decide (n≤j))
theorem Z3.push {n:Nat} {ls:List Nat} {bG:Array Bool} (h:Z3 n ls bG) {i:Nat} (hi:i<n):Z3 n (i::ls) (bG.setIfInBounds i true) where
 size:=by simp [h.size]
 gf:=fun j=>by
  unfold Di
  by_cases e:i=j
  ·subst e;have:Nat.beq i i=true:=Nat.beq_refl i;rw [this];simp [h.size,hi]
  ·rw [getD_set_ne false e,h.gf j];have:Nat.beq i j=false:=by
    cases hq:Nat.beq i j
    ·rfl
    ·exact absurd (Nat.eq_of_beq_eq_true hq) e
   simp [this]
 gt:=fun j=>by
  unfold Di
  by_cases e:i=j
  ·subst e;simp [h.size,hi]
  ·rw [getD_set_ne true e,h.gt j];have:Nat.beq i j=false:=by
    cases hq:Nat.beq i j
    ·rfl
    ·exact absurd (Nat.eq_of_beq_eq_true hq) e
   simp [this]
theorem Z3.none (n:Nat):Z3 n [] (Array.replicate n false) where
 size:=by simp
 gf:=fun j=>by
  simp only [Array.getD_eq_getD_getElem?,Array.getElem?_replicate,Di]
  split<;>rfl
 gt:=fun j=>by
  simp only [Array.getD_eq_getD_getElem?,Array.getElem?_replicate,Di]
  split
  ·rename_i h;simp;omega
  ·rename_i h;simp;omega
theorem Cv {ops:Array Oper} {ls:List Nat} {bG:Array Bool} (h:Z3 ops.size ls bG) (j:Nat):upB ops.toList ls j=true↔j∈Region.ready .any ops bG:=by
 rw [mem_ready];unfold upB;rw [og,Array.getElem?_toList,h.gt j]
 cases ho:ops[j]? with
 |none=>simp
 |some o=>
  have dB:j<ops.size:=(Array.getElem?_eq_some_iff.1 ho).1;have hn:decide (ops.size≤j)=false:=by simp;omega
  simp only [hn,Bool.or_false,Bool.and_eq_true,Bool.not_eq_true',List.all_eq_true,Array.mem_toList_iff,Bool.or_eq_true,Option.some.injEq,exists_eq_left',h.gf]
  constructor
  ·rintro ⟨h0,h1⟩
   exact ⟨h0,fun e he hb=>(h1 e he).resolve_left (by simp [hb])⟩
  ·rintro ⟨h0,h1⟩
   refine ⟨h0,fun e he => ?_⟩
   cases hb:Region.binds .any e
   ·exact .inl rfl
   ·exact .inr (h1 e he hb)
theorem Uh {i j:Nat} (h:i≠j):Nat.beq i j=false:=by
 cases hq:Nat.beq i j
 ·rfl
 ·exact absurd (Nat.eq_of_beq_eq_true hq) h
theorem Is {ops:Array Oper} {ls:List Nat} {bG:Array Bool} (h:Z3 ops.size ls bG) {i:Nat} {oi:Oper} (hi:ops[i]?=some oi) (hf:SJ ops ops.toList ops.size ls i=true) :
  ∀j oj,ops[j]?=some oj→j≠i→bG.getD j true=false→(∀e∈oj.after,Region.binds .any e=true→e.on≠i)→oi.apart ops oj=true:=by
 intro j oj hj Kc NZ Z2;unfold SJ at hf;rw [og,Array.getElem?_toList,hi] at hf;have dB:j<ops.size:=(Array.getElem?_eq_some_iff.1 hj).1;have h1:=List.all_eq_true.1 hf j (List.mem_range.2 dB);rw [og,Array.getElem?_toList,hj,Uh Kc,Bool.false_or] at h1;rw [h.gt j,Bool.or_eq_false_iff] at NZ;rw [NZ.1,Bool.false_or,Bool.or_eq_true] at h1;rcases h1 with h1 | h1
 ·obtain ⟨e,he,h2⟩:=List.any_eq_true.1 h1;rw [Bool.and_eq_true] at h2;exact absurd (Nat.eq_of_beq_eq_true h2.2) (Z2 e (Array.mem_toList_iff.1 he) h2.1)
 ·exact h1
theorem OJ {ops:Array Oper} {ls:List Nat} {bG:Array Bool} (h:Z3 ops.size ls bG) {i:Nat} (hf:ML ops.toList ops.size ls i=true):∀j∈Region.ready .any ops bG,j=i:=by
 intro j hj;have dB:j<ops.size:=by
  obtain ⟨_,o,ho,_⟩:=mem_ready.1 hj;exact (Array.getElem?_eq_some_iff.1 ho).1
 have h1:=List.all_eq_true.1 hf j (List.mem_range.2 dB);rw [(Cv h j).2 hj,Bool.not_true,Bool.or_false] at h1;exact Nat.eq_of_beq_eq_true h1
theorem EB {P:Program} {T:pA} {S:nF} {w0:World} {mu:Mu} {c:Cz} {st bV:St} {a:Act} {w:World} {ops:Array Oper} {o:Oper} {C:World→Prop} (h:Rel w0 mu c st a w)
  (hd:∀k,o.dst=some k→k<a.tmps.size) (hv:(Fs T S ops.toList st o).val=some bV)
  (base:(Sn T S st o).val=some bV→∃v,(∀w':World,C w'→(execOp a.eval o).run P w'=.ok (.value v) w')∧Rel w0 mu c bV (a.put o.dst v) w) :
  ∃v,YieldsIf P ops C o v a∧Rel w0 mu c bV (a.put o.dst v) w:=by
 unfold Fs at hv;unfold YieldsIf Region.wanted
 cases hg:o.guard with
 |none=>
  simp only [hg] at hv ⊢;obtain ⟨v,h1,h2⟩:=base hv;exact ⟨v,.inl ⟨trivial,h1⟩,h2⟩
 |some p=>
  obtain ⟨j,want⟩:=p;simp only [hg] at hv ⊢
  cases hj:(nth ops.toList j).bind (·.dst) with
  |none=>simp [hj,N.val] at hv
  |some d=>
   simp only [hj] at hv
   split at hv
   ·rename_i b WX;obtain ⟨h1,h2⟩:=Cn h WX;rw [H5 (ops:=ops) hj h1 h2];have yes:(Sn T S (TM.bW st (some d) (.one (.bool b))) o).val=some bV→∃v,(∀w':World,C w'→(execOp a.eval o).run P w'=.ok (.value v) w')∧Rel w0 mu c bV (a.put o.dst v) w:=fun e=>base (by rwa [Co st d WX] at e)
    have no:(N.done (TM.bW (TM.bW st (some d) (.one (.bool b))) o.dst (.rb []))).val=some bV→Rel w0 mu c bV (a.put o.dst undef) w:=by
     intro e;simp only [N.val,Option.some.injEq] at e;subst e;rw [Co st d WX];exact h.bW (Cp _ _ _) hd
    rcases yg hv with ⟨hb,HU⟩ | ⟨hb,HU⟩
    ·subst hb
     cases want
     ·exact ⟨undef,.inr ⟨rfl,rfl⟩,no HU⟩
     ·obtain ⟨v,h3,h4⟩:=yes HU;exact ⟨v,.inl ⟨rfl,h3⟩,h4⟩
    ·subst hb
     cases want
     ·obtain ⟨v,h3,h4⟩:=yes HU;exact ⟨v,.inl ⟨rfl,h3⟩,h4⟩
     ·exact ⟨undef,.inr ⟨rfl,rfl⟩,no HU⟩
   ·rename_i WX;simp only [N.val,Option.some.injEq] at hv;subst hv;rw [C1 (ops:=ops) hj (H6 h WX)];exact ⟨undef,.inr ⟨by cases want<;>rfl,rfl⟩,h.bW (Cp _ _ _) hd⟩
   ·simp [N.val] at hv
theorem aaC {P:Program} {T:pA} (hT:j7 P T) {S:nF} {w0:World} {mu:Mu} {c:Cz} {st:St} {a:Act} {w:World} (h:Rel w0 mu c st a w) {o:Oper} (hk:kindOk S st o .take=true)
  {bV:St} (hv:(Sn T S st o).val=some bV) (hd:∀k,o.dst=some k→k<a.tmps.size):∃v,(∀w':World,lM w w'→(execOp a.eval o).run P w'=.ok (.value v) w')∧Rel w0 mu c bV (a.put o.dst v) w:=by
 unfold kindOk at hk;unfold Sn at hv
 cases ho:o.op with
 |load t x=>
  simp only [ho] at hv;obtain ⟨v,h1,h2⟩:=N2 hT h (cY h x) hv hd;exact ⟨v,fun w' hw=>by simp only [execOp,ho];exact v8 (h1 w' hw),h2⟩
 |_=>simp [ho] at hk
theorem EC {i:Nat}:(l:List Nat)→Di i l=true→i∈l
 | [],h=>by cases h
 |x::l,h=>by
  unfold Di at h;rw [Bool.or_eq_true] at h;rcases h with h | h
  ·rw [Nat.eq_of_beq_eq_true h];exact List.mem_cons_self
  ·exact List.mem_cons_of_mem _ (EC l h)
theorem Bv {R:Type} {P:Program} {T:pA} (hT:j7 P T) (hE:yX P T) {S:nF} {w0:World} {mu:Mu} {n:Nat} (Kk:xo P T S w0 mu n) {ops:Array Oper} {ds:List Nat} {Q:Exit→Act→World→Prop} (hQ:∀c a w,¬Q (.panic c) a w)
  {k:St→Option R} {r:R} (hk:Next w0 mu n r k (Q .normal)) (hns:Region.noSelect ops=true) (xa:Dd n ops.toList=true) :
  (l:Pl)→(ls:List Nat)→(bG:Array Bool)→(fuel:Nat)→{c:Cz}→{st:St}→{a:Act}→{w:World}→Z3 ops.size ls bG→xR .any ops bG→l.depth≤fuel→
   Rel w0 mu c st a w→a.tmps.size=n→xL T S ops.toList l st k=some r→
   (oz ops ops.toList ops.size ds false ls l=true→sy P .any ops Q ds fuel bG a w)∧
   (oz ops ops.toList ops.size ds true ls l=true→∃OK,fuel=OK+1∧∀i∈l.ef,i∈Region.ready .any ops bG∧wpOp P ops Q i (fun a' w'=>(i∉ds→lM w w')∧sy P .any ops Q ds OK (bG.setIfInBounds i true) a' w') a w)
 |.nil,ls,bG,fuel,c,st,a,w,hl,_,_,h,hn,hv=>by
  refine ⟨fun hb => ?_,fun hb=>by simp [oz] at hb⟩;unfold oz at hb;rw [Bool.and_eq_true] at hb;have hr:Region.ready .any ops bG=[]:=by
   refine List.eq_nil_iff_forall_not_mem.2 fun j hj => ?_
   obtain ⟨_,o,ho,_⟩:=mem_ready.1 hj;have dB:j<ops.size:=(Array.getElem?_eq_some_iff.1 ho).1;have h1:=List.all_eq_true.1 hb.2 j (List.mem_range.2 dB);rw [(Cv hl j).2 hj] at h1
   cases h1
  have hq:=hk h hn hv
  cases fuel with
  |zero=>exact ⟨hr,hq⟩
  |succ fuel=>exact ⟨fun _=>hq,fun i hi=>by rw [hr] at hi;cases hi⟩
 |.op i kd l,ls,bG,0,c,st,a,w,hl,_,hf,h,hn,hv=>absurd hf (by simp [Pl.depth])
 |.op i kd l,ls,bG,fuel+1,c,st,a,w,hl,hs,hf,h,hn,hv=>by
  have hf:l.depth≤fuel:=Nat.le_of_succ_le_succ hf;have first:∀al,oz ops ops.toList ops.size ds al ls (.op i kd l)=true→upB ops.toList ls i=true∧oz ops ops.toList ops.size ds false (i::ls) l=true:=by
   intro al hb;unfold oz at hb;rw [Bool.and_eq_true,Bool.and_eq_true] at hb;exact ⟨hb.1,hb.2.2⟩
  have step:upB ops.toList ls i=true→oz ops ops.toList ops.size ds false (i::ls) l=true→(kd=.one∨i∈ds)→wpOp P ops Q i (fun a' w'=>(i∉ds→lM w w')∧sy P .any ops Q ds fuel (bG.setIfInBounds i true) a' w') a w:=by
   intro hup ic hds;have hir:=(Cv hl i).1 hup;obtain ⟨_,o,SI,_⟩:=mem_ready.1 hir;have dB:i<ops.size:=(Array.getElem?_eq_some_iff.1 SI).1;unfold xL at hv;rw [og,Array.getElem?_toList,SI] at hv;obtain ⟨Z4,hv⟩:=bM hv;rw [N.fold_eq] at hv;obtain ⟨bV,h1,h2⟩:=Option.bind_eq_some_iff.1 hv;have Wo:∀k,o.dst=some k→k<a.tmps.size:=fun k hk=>by rw [hn];exact Fv xa (by rw [Array.mem_toList_iff];exact Array.mem_of_getElem? SI) k hk
   have next:∀ {c':Cz} {a':Act} {w':World},Rel w0 mu c' bV a' w'→a'.tmps.size=n→sy P .any ops Q ds fuel (bG.setIfInBounds i true) a' w':=fun hr Wm=>
    (Bv hT hE Kk hQ hk hns xa l (i::ls) _ fuel (hl.push dB) (hs.set hir) hf hr Wm h2).1 ic
   have hko:kd=.one→kindOk S st o .one=true:=fun e=>by rw [e] at Z4;exact Z4
   unfold wpOp;rw [SI];rcases Oi Kk h hn (fun k hk=>by rw [←hn];exact Wo k hk) h1 with ⟨hw,w7⟩ | ⟨hw,Et⟩
   ·simp only [hw,if_true];refine .inl (Oper.wp_mono (fun a' w' ⟨⟨c',hr,qY⟩,hkp⟩=>⟨fun hnd => ?_,next hr (qY.trans hn)⟩) (w7 Q));rcases hds with e | e
    ·exact hkp (hko e)
    ·exact absurd e hnd
   ·simp only [hw,Bool.false_eq_true,if_false];exact ⟨fun _=>lM.refl w,next Et ((v7 _ _ _).trans hn)⟩
  refine ⟨fun hb => ?_,fun hb=>⟨fuel,rfl,fun j hj => ?_⟩⟩
  ·obtain ⟨hup,ic⟩:=first _ hb;have hir:=(Cv hl i).1 hup;unfold oz at hb;rw [Bool.and_eq_true,Bool.and_eq_true] at hb;obtain ⟨_,SK,_⟩:=hb;have alone:ML ops.toList ops.size ls i=true→(kd=.one∨i∈ds)→sy P .any ops Q ds (fuel+1) bG a w:=by
    intro hal hds;refine ⟨fun e=>absurd hir (by rw [e];exact List.not_mem_nil),fun j hj => ?_⟩;have:=OJ hl hal j hj;subst this;exact step hup ic hds
   obtain ⟨_,o,SI,_⟩:=mem_ready.1 hir;have dB:i<ops.size:=(Array.getElem?_eq_some_iff.1 SI).1;unfold xL at hv;rw [og,Array.getElem?_toList,SI] at hv;obtain ⟨Z4,hv⟩:=bM hv;rw [N.fold_eq] at hv;obtain ⟨bV,h1,h2⟩:=Option.bind_eq_some_iff.1 hv;have Wo:∀k,o.dst=some k→k<a.tmps.size:=fun k hk=>by rw [hn];exact Fv xa (by rw [Array.mem_toList_iff];exact Array.mem_of_getElem? SI) k hk
   have next:∀ {c':Cz} {a':Act} {w':World},Rel w0 mu c' bV a' w'→a'.tmps.size=n→sy P .any ops Q ds fuel (bG.setIfInBounds i true) a' w':=fun hr Wm=>
    (Bv hT hE Kk hQ hk hns xa l (i::ls) _ fuel (hl.push dB) (hs.set hir) hf hr Wm h2).1 ic
   have OH:=Region.noSelect_spec hns
   cases kd with
   |one=>exact alone (by simpa using SK) (.inl rfl)
   |last=>
    simp only [Bool.false_or,Bool.and_eq_true] at SK;exact alone SK.1 (.inr (EC ds SK.2))
   |any=>
    simp only [Bool.not_false,Bool.true_and] at SK;obtain ⟨v,hy,Et⟩:=EB (P:=P) (ops:=ops) (C:=fun _=>True) h Wo h1 (fun e=>by
     obtain ⟨v,g1,g2⟩:=Sv hT hE h Z4 e Wo;exact ⟨v,fun w' _=>g1 w',g2⟩)
    refine QM SI OH (fun c a w hq=>absurd hq (hQ _ _ _)) fuel bG a w (Is hl SI SK) hir ?_ (next Et ((v7 _ _ _).trans hn));rcases hy with ⟨g1,g2⟩ | g
    ·exact .inl ⟨g1,fun w'=>g2 w' trivial⟩
    ·exact .inr g
   |take=>
    simp only [Bool.not_false,Bool.true_and,Bool.and_eq_true] at SK;obtain ⟨v,hy,Et⟩:=EB (P:=P) (ops:=ops) (C:=lM w) h Wo h1 (fun e=>aaC hT h Z4 e Wo);refine MK SI OH (fun c a w hq=>absurd hq (hQ _ _ _)) ops.size fuel bG a w (Is hl SI SK.1) hs (fun d hm NZ => ?_) hir hy (lM.refl w) (next Et ((v7 _ _ _).trans hn));have h3:=List.all_eq_true.1 SK.2 d hm;rw [hl.gt d,Bool.or_eq_false_iff] at NZ;rw [NZ.1,Bool.false_or] at h3;exact h3
  ·have hj:j=i:=by simpa [Pl.ef] using hj
   subst hj;obtain ⟨hup,ic⟩:=first _ hb;refine ⟨(Cv hl j).1 hup,step hup ic ?_⟩;unfold oz at hb;rw [Bool.and_eq_true,Bool.and_eq_true] at hb;obtain ⟨_,SK,_⟩:=hb
   cases kd with
   |one=>exact .inl rfl
   |last=>
    simp only [Bool.true_or,Bool.true_and] at SK;exact .inr (EC ds SK)
   |any=>simp at SK
   |take=>simp at SK
 |.alt p q,ls,bG,fuel,c,st,a,w,hl,hs,hf,h,hn,hv=>by
  have hv:both (xL T S ops.toList p st k) (xL T S ops.toList q st k)=some r:=hv;obtain ⟨HU,Qf⟩:=TH hv;have hf:Nat.max p.depth q.depth≤fuel:=hf;have hp:=(Bv (ds:=ds) hT hE Kk hQ hk hns xa p ls bG fuel hl hs (Nat.le_trans (Nat.le_max_left _ _) hf) h hn HU).2;have hq:=(Bv (ds:=ds) hT hE Kk hQ hk hns xa q ls bG fuel hl hs (Nat.le_trans (Nat.le_max_right _ _) hf) h hn Qf).2;have ef:oz ops ops.toList ops.size ds true ls p=true→oz ops ops.toList ops.size ds true ls q=true→∃OK,fuel=OK+1∧∀i∈p.ef++q.ef,i∈Region.ready .any ops bG∧wpOp P ops Q i (fun a' w'=>(i∉ds→lM w w')∧sy P .any ops Q ds OK (bG.setIfInBounds i true) a' w') a w:=by
   intro h1 h2;obtain ⟨f1,e1,g1⟩:=hp h1;obtain ⟨f2,e2,g2⟩:=hq h2;have:f1=f2:=by omega
   subst this;exact ⟨f1,e1,fun i hi=>(List.mem_append.1 hi).elim (g1 i) (g2 i)⟩
  have parts:∀al,oz ops ops.toList ops.size ds al ls (.alt p q)=true→(al||Xo ops.toList ops.size ls (p.ef++q.ef))=true∧oz ops ops.toList ops.size ds true ls p=true∧oz ops ops.toList ops.size ds true ls q=true:=by
   intro al hb;unfold oz at hb;rw [Bool.and_eq_true,Bool.and_eq_true] at hb;exact hb
  refine ⟨fun hb => ?_,fun hb => ?_⟩
  ·obtain ⟨hc,h1,h2⟩:=parts _ hb;obtain ⟨f,rfl,g⟩:=ef h1 h2;have apX:∀j∈Region.ready .any ops bG,j∈p.ef++q.ef:=by
    intro j hj;have dB:j<ops.size:=by
     obtain ⟨_,o,ho,_⟩:=mem_ready.1 hj;exact (Array.getElem?_eq_some_iff.1 ho).1
    rw [Bool.false_or] at hc;have h1:=List.all_eq_true.1 hc j (List.mem_range.2 dB);rw [(Cv hl j).2 hj,Bool.not_true,Bool.false_or] at h1;exact EC _ h1
   refine ⟨fun e => ?_,fun j hj=>(g j (apX j hj)).2⟩;have mn:∃i,i∈p.ef++q.ef:=by
    have key:∀(l:Pl),oz ops ops.toList ops.size ds true ls l=true→∃i,i∈l.ef:=by
     intro l
     induction l with
     |nil=>intro h;simp [oz] at h
     |op i _ _ _=>intro _;exact ⟨i,by simp [Pl.ef]⟩
     |alt p q ih _=>
      intro h;unfold oz at h;rw [Bool.and_eq_true,Bool.and_eq_true] at h;obtain ⟨i,hi⟩:=ih h.2.1;exact ⟨i,List.mem_append_left _ hi⟩
    obtain ⟨i,hi⟩:=key p h1;exact ⟨i,List.mem_append_left _ hi⟩
   obtain ⟨i,hi⟩:=mn;have:=(g i hi).1;rw [e] at this
   cases this
  ·obtain ⟨_,h1,h2⟩:=parts _ hb;exact ef h1 h2
theorem vH {R:Type} {P:Program} {T:pA} (hT:j7 P T) (hE:yX P T) (hm:P.follows .mixedOrders=true) {S:nF} {D:nO} {w0:World} {mu:Mu} {n:Nat} (Kk:xo P T S w0 mu n) :
  vE R P T S D w0 mu n (fun id ops=>Ir ops (D id)=true):=by
 intro id ops Q k r je xa hk c st a w h hn hv;unfold Ir at je;rw [Bool.and_eq_true,Bool.and_eq_true] at je;obtain ⟨hns,hlen,hb⟩:=je
 let Q':Exit→Act→World→Prop:=fun e a w=>e=.normal∧Q .normal a w
 have key:(Code.region id ops true).wp P Q' a w:=by
  refine wp_region_any hm (C4 _ _ _ _ ((Bv hT hE Kk (ds:=Lq (D id)) (Q:=Q') (fun c a w hq=>by cases hq.1) (fun {c st a w} g1 g2 g3=>⟨rfl,hk g1 g2 g3⟩) hns xa (D id) [] _ ops.size (Z3.none _) (xR.none _ _ _) (Nat.le_of_ble_eq_true hlen) h.drew hn hv).1 hb))
 exact Code.wp_mono (fun e a w hq=>by obtain ⟨rfl,hq⟩:=hq;exact hq) key
end Go.TM
namespace Go.TM
open Go Go.RowKit
abbrev Cur:RT→Type→Type
 |.nil,R=>R
 |.cons t r,R=>den t→Cur r R
abbrev oY {R:Type}:(r:RT)→Cur r R→aO r→R
 |.nil,f,_=>f
 |.cons _ r,f,x=>oY r (f x.1) x.2
def iw:nO:=fun _=>.nil
def noL {R:Type}:qN R:=fun _ _ _ _=>none
def Xp (f:Func):Code:=match f.body with | some c=>c | none=>.skip
def nn:Nat→List (Option AP)
 |0=>[]
 |n+1=>none::nn n
structure Rec where
 size:Nat
 agg:Bool
 dw:List (Nat×Nat)
 row:Option RT
 elem:Option (RT×Nat)
 kind:Option Ty
 mQ:List Nat
 eq:Bool
 dp:Bool:=false
 cap:Bool:=false
inductive Tr where
 |leaf
 |node (l:Tr) (k:Nat) (v:Rec) (r:Tr)
def Tr.flat:Tr→Tr
 |.leaf=>.leaf
 |.node l k v r=>.node l.flat k { v with dp:=false } r.flat
def Tr.AU (l:List Nat):Tr→Tr
 |.leaf=>.leaf
 |.node a k v b=>.node (a.AU l) k { v with cap:=l.any (Nat.beq k) } (b.AU l)
def Tr.find:Tr→Nat→Option Rec
 |.leaf,_=>none
 |.node l k v r,t=>bif Nat.beq t k then some v else bif Nat.blt t k then l.find t else r.find t
def Tr.all (p:Nat→Rec→Bool):Tr→Bool
 |.leaf=>true
 |.node l k v r=>l.all p&&(p k v&&r.all p)
theorem Tr.ED {p:Nat→Rec→Bool}:(tr:Tr)→tr.all p=true→∀ {t v},tr.find t=some v→p t v=true
 |.leaf,_,_,_,h=>by cases h
 |.node l k v r,h,t,u,hf=>by
  unfold Tr.all at h;rw [Bool.and_eq_true,Bool.and_eq_true] at h;unfold Tr.find at hf
  cases hb:Nat.beq t k with
  |true=>
   rw [hb] at hf;injection hf with hf;subst hf;rw [Nat.eq_of_beq_eq_true hb];exact h.2.1
  |false=>
   rw [hb] at hf
   cases hl:Nat.blt t k with
   |true=>rw [hl] at hf;exact Tr.ED l h.1 hf
   |false=>rw [hl] at hf;exact Tr.ED r h.2.2 hf
def mv (tr:Tr):pA where
 cells t:=(tr.find t).map (·.size)
 agg t:=match tr.find t with | some r=>r.agg | none=>false
 off t f:=match tr.find t with | some r=>(nth r.dw f).map (·.1) | none=>none
 fsz t f:=match tr.find t with | some r=>(nth r.dw f).map (·.2) | none=>none
 row t:=match tr.find t with | some r=>r.row | none=>none
 elem t:=match tr.find t with | some r=>r.elem | none=>none
 rb _:=none
 kind t:=match tr.find t with | some r=>r.kind | none=>none
 one t f:=match tr.find t with | some r=>r.mQ.any (Nat.beq f) | none=>false
 eq t:=match tr.find t with | some r=>r.eq | none=>false
 dp t:=match tr.find t with | some r=>r.dp | none=>false
 cap t:=match tr.find t with | some r=>r.cap | none=>false
def qQ:RT→List Value→Bool
 |.nil,[]=>true
 |.cons (.int k) r,.int l n::vs=>decide (k=l)&&decide (n=0)&&qQ r vs
 |.cons .bool r,.bool b::vs => !b&&qQ r vs
 |.cons .str r,.string s::vs=>(match s.data.toList with | []=>true | _=>false)&&qQ r vs
 |.cons (.sl _) r,.slice none 0 0::vs=>qQ r vs
 |_,_=>false
theorem ym:(r:RT)→(vs:List Value)→qQ r vs=true→lC r vs
 |.nil,[],_=>rfl
 |.nil,_::_,h=>by simp [qQ] at h
 |.cons t r,[],h=>by cases t<;>simp [qQ] at h
 |.cons t r,v::vs,h=>by
  cases t with
  |int k=>
   cases v<;>try (simp [qQ] at h;done)
   rename_i l n;simp only [qQ,Bool.and_eq_true,decide_eq_true_eq] at h;obtain ⟨⟨rfl,rfl⟩,h⟩:=h;exact ⟨vs,rfl,ym r vs h⟩
  |bool=>
   cases v<;>try (simp [qQ] at h;done)
   rename_i b;simp only [qQ,Bool.and_eq_true,Bool.not_eq_true'] at h;obtain ⟨rfl,h⟩:=h;exact ⟨vs,rfl,ym r vs h⟩
  |str=>
   cases v<;>try (simp [qQ] at h;done)
   rename_i s;simp only [qQ,Bool.and_eq_true] at h;obtain ⟨h1,h⟩:=h;refine ⟨vs,?_,ym r vs h⟩;obtain ⟨d⟩:=s;obtain ⟨d⟩:=d
   cases d with
   |nil=>rfl
   |cons _ _=>simp at h1
  |sl q=>
   cases v<;>try (simp [qQ] at h;done)
   rename_i a n m
   cases a with
   |some _=>simp [qQ] at h
   |none=>cases n with
    |succ _=>simp [qQ] at h
    |zero=>cases m with
     |succ _=>simp [qQ] at h
     |zero=>
      have h:qQ r vs=true:=h;exact ⟨vs,rfl,ym r vs h⟩
def xq {α:Type} (o:Option α) (p:α→Bool):Bool:=match o with | some x=>p x | none=>false
theorem iT {α:Type} {o:Option α} {p:α→Bool} (h:xq o p=true):∃x,o=some x∧p x=true:=by
 cases o with
 |none=>cases h
 |some x=>exact ⟨x,rfl,h⟩
def zc (P:Program):List Field→List (Nat×Nat)→Bool
 | [],[]=>true
 |f::fs,(o,s)::ps=>Nat.beq f.offset o&&(xq (P.info? f.type) (fun i=>Nat.beq i.size s)&&(Nat.blt 0 s&&zc P fs ps))
 |_,_=>false
theorem Dj {P:Program}:(fs:List Field)→(ps:List (Nat×Nat))→zc P fs ps=true→
  fs.mapM (fun f=>(P.info? f.type).map fun i=>(f.offset,i.size))=some ps∧∀(k:Nat) p,ps[k]?=some p→∃K0 n,fs[k]?=some K0∧K0.offset=p.1∧(P.info? K0.type).map (·.size)=some (n+1)
 | [],[],_=>⟨rfl,fun k p h=>by simp at h⟩
 | [],_::_,h=>by simp [zc] at h
 |_::_,[],h=>by simp [zc] at h
 |f::fs,(o,s)::ps,h=>by
  unfold zc at h;rw [Bool.and_eq_true,Bool.and_eq_true,Bool.and_eq_true] at h;obtain ⟨h1,h2,h3,h4⟩:=h;obtain ⟨i,hi,his⟩:=iT h2;have h1:=Nat.eq_of_beq_eq_true h1;have his:=Nat.eq_of_beq_eq_true his;obtain ⟨g1,g2⟩:=Dj fs ps h4;refine ⟨by simp [List.mapM_cons,hi,g1,h1,his],fun k p hp => ?_⟩
  cases k with
  |zero=>
   simp at hp;subst hp;have h3:0<s:=Nat.le_of_ble_eq_true h3;exact ⟨f,s-1,rfl,h1,by rw [hi];simp [his];omega⟩
  |succ k=>exact g2 k p (by simpa using hp)
def OL (P:Program) (t:Nat):Ty→Bool
 |.int k=>xq (P.underlying t) fun | .int l=>decide (k=l) | _=>false
 |.bool=>xq (P.underlying t) fun | .bool=>true | _=>false
 |.str=>xq (P.underlying t) fun | .string=>true | _=>false
 |.sl _=>false
def MM (P:Program) (t:Nat) (r:Rec):Bool:=
 xq (P.info? t) (fun i=>Nat.beq i.size r.size&&(match r.row with | some q=>xq i.zero (fun z=>qQ q z.cells.toList) | none=>true)) &&
 (xq (P.underlying t) (fun d=>(d.isRow==r.agg)&&(bif r.agg then true else Nat.beq r.size 1)&&(match d with | .struct fs=>bif r.agg then zc P fs.toList r.dw else Nat.beq r.dw.length 0 | _ => !r.agg&&Nat.beq r.dw.length 0)
   && (match r.elem with | some (q,b)=>(match d with | .slice e=>xq (P.info? e) (fun i=>Nat.beq i.size q.width&&(Nat.blt 0 q.width&&(Nat.beq i.bytes b&&(Nat.blt 0 b&&xq i.zero (fun z=>qQ q z.cells.toList))))) | _=>false) | none=>true)) &&
 ((match r.kind with | some k=>OL P t k | none=>true)&&(match r.elem with | some (.cons (.int .u8) .nil,_)=>xq (P.underlying t) (fun d=>match d with | .slice e=>OL P e (.int .u8) | _=>false) | _=>true)))
def ab2 (P:Program) (t:Nat) (l:List Nat):Bool:=l.all fun f=>xq (P.underlying t) fun d=>match d with | .struct fs=>xq fs[f]? (fun K0=>xq (P.underlying K0.type) fun e => !e.isRow) | _=>false
def yn (P:Program) (t:Nat) (r:Rec):Bool:=MM P t r&&ab2 P t r.mQ
theorem lj {P:Program} {tr:Tr} (h:tr.all (yn P)=true):j7 P (mv tr):=by
 have akc:∀ {t r},tr.find t=some r→yn P t r=true:=fun hf=>Tr.ED tr h hf
 have get:∀ {t r},tr.find t=some r→MM P t r=true:=fun hf=>(Bool.and_eq_true _ _▸akc hf).1
 have base:∀ {t r},tr.find t=some r→(∃i,P.info? t=some i∧i.size=r.size∧∀q,r.row=some q→∃z,i.zero=some z∧lC q z.cells.toList)∧
   (∃d,P.underlying t=some d∧d.isRow=r.agg∧(r.agg=false→r.size=1)∧(r.dw≠[]∨r.agg=true→∃fs,d=.struct fs∧zc P fs.toList r.dw=true)∧
    ∀q b,r.elem=some (q,b)→∃e i z,d=.slice e∧P.info? e=some i∧i.size=q.width∧0<q.width∧i.bytes=b∧0<b∧i.zero=some z∧lC q z.cells.toList)∧
   ∀k,r.kind=some k→OL P t k=true:=by
  intro t r hf;have h1:=get hf;unfold MM at h1;rw [Bool.and_eq_true,Bool.and_eq_true,Bool.and_eq_true] at h1;obtain ⟨h1,h2,h3,_⟩:=h1;obtain ⟨i,hi,h4⟩:=iT h1;rw [Bool.and_eq_true] at h4;obtain ⟨d,hd,h5⟩:=iT h2;rw [Bool.and_eq_true,Bool.and_eq_true,Bool.and_eq_true] at h5;obtain ⟨⟨⟨g1,g2⟩,g3⟩,g4⟩:=h5;refine ⟨⟨i,hi,Nat.eq_of_beq_eq_true h4.1,fun q hq => ?_⟩,⟨d,hd,by simpa using g1,fun SF => ?_,fun mn => ?_,fun q b he => ?_⟩,fun k hk => ?_⟩
  ·have h6:=h4.2;rw [hq] at h6;obtain ⟨z,hz,h7⟩:=iT h6;exact ⟨z,hz,ym q _ h7⟩
  ·rw [SF] at g2;exact Nat.eq_of_beq_eq_true g2
  ·cases SF:r.agg with
   |true=>
    rw [SF] at g3
    cases d with
    |struct fs=>exact ⟨fs,rfl,g3⟩
    |_=>simp at g3
   |false=>
    rw [SF] at g3;rcases mn with mn | mn
    ·have:Nat.beq r.dw.length 0=true:=by
      cases d with
      |struct fs=>exact g3
      |_=>simpa using g3
     exact absurd (List.length_eq_zero_iff.1 (Nat.eq_of_beq_eq_true this)) mn
    ·rw [SF] at mn;cases mn
  ·rw [he] at g4
   cases d with
   |slice e=>
    obtain ⟨i,h6,h7⟩:=iT g4;rw [Bool.and_eq_true,Bool.and_eq_true,Bool.and_eq_true,Bool.and_eq_true] at h7;obtain ⟨k1,k2,k3,k4,k5⟩:=h7;obtain ⟨z,hz,h8⟩:=iT k5;exact ⟨e,i,z,rfl,h6,Nat.eq_of_beq_eq_true k1,Nat.le_of_ble_eq_true k2,Nat.eq_of_beq_eq_true k3,Nat.le_of_ble_eq_true k4,hz,ym q _ h8⟩
   |_=>cases g4
  ·rw [hk] at h3;exact h3
 have look:∀ {α:Type} {t:Nat} {g:Rec→Option α} {x:α},(match tr.find t with | some r=>g r | none=>none)=some x→∃r,tr.find t=some r∧g r=some x:=by
  intro α t g x hx
  cases hf:tr.find t with
  |none=>rw [hf] at hx;cases hx
  |some r=>rw [hf] at hx;exact ⟨r,rfl,hx⟩
 have akd:∀ {t:Nat} {g:Rec→Bool},(match tr.find t with | some r=>g r | none=>false)=true→∃r,tr.find t=some r∧g r=true:=by
  intro t g hx
  cases hf:tr.find t with
  |none=>rw [hf] at hx;cases hx
  |some r=>rw [hf] at hx;exact ⟨r,rfl,hx⟩
 exact {
  cells:=fun t n ht=>by
   obtain ⟨r,hf,rfl⟩:=Option.map_eq_some_iff.1 ht;obtain ⟨⟨i,hi,hs,_⟩,_⟩:=base hf;rw [hi];simp [hs]
  agg:=fun t n ht=>by
   obtain ⟨r,hf,rfl⟩:=Option.map_eq_some_iff.1 ht;obtain ⟨_,⟨d,hd,h1,h2,_⟩,_⟩:=base hf;have e:(mv tr).agg t=r.agg:=by show (match tr.find t with | some r=>r.agg | none=>false)=_;rw [hf]
   exact ⟨d,hd,h1.trans e.symm,fun h=>h2 (e▸h)⟩
  off:=fun t f k ht=>by
   obtain ⟨r,hf,hk⟩:=look ht;obtain ⟨p,hp,rfl⟩:=Option.map_eq_some_iff.1 hk;obtain ⟨_,⟨d,hd,_,_,h3,_⟩,_⟩:=base hf;rw [og] at hp;obtain ⟨fs,rfl,hfs⟩:=h3 (.inl (by intro e;rw [e] at hp;simp at hp));obtain ⟨K0,n,g1,g2,g3⟩:=(Dj fs.toList r.dw hfs).2 f p hp;exact ⟨fs,K0,n,hd,by simpa using g1,g2,g3⟩
  bld:=fun t ht=>by
   obtain ⟨r,hf,SF⟩:=akd (g:=fun r=>r.agg) ht;obtain ⟨_,⟨d,hd,_,_,h3,_⟩,_⟩:=base hf;obtain ⟨fs,rfl,hfs⟩:=h3 (.inr SF);refine ⟨fs,r.dw,hd,(Dj fs.toList r.dw hfs).1,fun f o s ho hs => ?_⟩;have ho:(match tr.find t with | some r=>(nth r.dw f).map (·.1) | none=>none)=some o:=ho;have hs:(match tr.find t with | some r=>(nth r.dw f).map (·.2) | none=>none)=some s:=hs;rw [hf] at ho hs;obtain ⟨p,hp,rfl⟩:=Option.map_eq_some_iff.1 ho;obtain ⟨p',mj,rfl⟩:=Option.map_eq_some_iff.1 hs;rw [hp] at mj;injection mj with e;subst e;rw [og] at hp;exact hp
  row:=fun t q ht=>by
   obtain ⟨r,hf,hk⟩:=look (g:=fun r=>r.row) ht;obtain ⟨⟨i,hi,_,h1⟩,_⟩:=base hf;obtain ⟨z,hz,MB⟩:=h1 q hk;exact ⟨i,z,hi,hz,MB⟩
  elem:=fun t q b ht=>by
   obtain ⟨r,hf,hk⟩:=look (g:=fun r=>r.elem) ht;obtain ⟨_,⟨d,hd,_,_,_,h4⟩,_⟩:=base hf;obtain ⟨e,i,z,rfl,h5⟩:=h4 q b hk;exact ⟨e,i,z,hd,h5⟩
  u8:=fun t e b ht hu=>by
   obtain ⟨r,hf,hk⟩:=look (g:=fun r=>r.elem) ht;have h1:=get hf;unfold MM at h1;rw [Bool.and_eq_true,Bool.and_eq_true,Bool.and_eq_true] at h1;have h2:=h1.2.2.2;rw [hk] at h2;obtain ⟨d,hd,h3⟩:=iT h2;rw [hu] at hd;injection hd with hd;subst hd;obtain ⟨d2,hd2,h4⟩:=iT h3;rw [hd2]
   cases d2<;>simp at h4
   rw [←h4]
  one:=fun t f ht=>by
   have ht:(match tr.find t with | some r=>r.mQ.any (Nat.beq f) | none=>false)=true:=ht
   cases hf:tr.find t with
   |none=>rw [hf] at ht;cases ht
   |some r=>
    rw [hf] at ht;have h2:ab2 P t r.mQ=true:=(Bool.and_eq_true _ _▸akc hf).2;obtain ⟨g,hg,hb⟩:=List.any_eq_true.1 ht;have hb:=Nat.eq_of_beq_eq_true hb;subst hb;have h3:=List.all_eq_true.1 h2 f hg;obtain ⟨d,hd,h4⟩:=iT h3
    cases d with
    |struct fs=>
     obtain ⟨K0,apZ,h5⟩:=iT h4;obtain ⟨e,he,h6⟩:=iT h5;exact ⟨fs,K0,e,hd,apZ,he,by simpa using h6⟩
    |_=>cases h4
  kind:=fun t y ht=>by
   obtain ⟨r,hf,hk⟩:=look (g:=fun r=>r.kind) ht;have h1:=(base hf).2.2 y hk
   cases y with
   |int k=>
    obtain ⟨d,hd,h2⟩:=iT h1;refine ⟨d,hd,?_⟩
    cases d<;>simp at h2
    rw [h2];rfl
   |bool=>
    obtain ⟨d,hd,h2⟩:=iT h1;refine ⟨d,hd,?_⟩
    cases d<;>simp at h2
    rfl
   |str=>
    obtain ⟨d,hd,h2⟩:=iT h1;refine ⟨d,hd,?_⟩
    cases d<;>simp at h2
    rfl
   |sl _=>cases h1 }
end Go.TM
namespace Go.TM
open Go Go.RowKit
def fM:Code→List (Nat×Code)
 |.seq a b=>fM a++fM b
 |.cond _ a b=>fM a++fM b
 |.block id (.loop b)=>[(id,b)]
 |.block _ a=>fM a
 |_=>[]
theorem u4 {ok:Nat→Code→Prop}:(c:Code)→(∀p∈fM c,ok p.1 p.2)→fY ok c:=by
 intro c
 induction c with
 |seq a b iha ihb=>
  intro h;unfold fM at h;exact ⟨iha fun p hp=>h p (List.mem_append_left _ hp),ihb fun p hp=>h p (List.mem_append_right _ hp)⟩
 |cond x a b iha ihb=>
  intro h;unfold fM at h;exact ⟨iha fun p hp=>h p (List.mem_append_left _ hp),ihb fun p hp=>h p (List.mem_append_right _ hp)⟩
 |block id a ih=>
  intro h
  by_cases hb:∃b',a=.loop b'
  ·obtain ⟨b',rfl⟩:=hb;exact h (id,b') (by unfold fM;exact List.mem_cons_self)
  ·cases a with
   |loop b'=>exact absurd ⟨b',rfl⟩ hb
   |_=>unfold fM at h;unfold fY;exact ih h
 |_=>intro _;unfold fY;trivial
def xr (c:Code) (i:Nat):Code:=match nth (fM c) i with | some p=>p.2 | none=>.skip
def lQ (D:nO):Code→Bool
 |.region id ops true=>Ir ops (D id)
 |.seq a b=>lQ D a&&lQ D b
 |.cond _ a b=>lQ D a&&lQ D b
 |.block _ (.loop _)=>true
 |.block _ a=>lQ D a
 |_=>true
theorem xt {D:nO}:(c:Code)→lQ D c=true→gC (fun id ops=>Ir ops (D id)=true) c:=by
 intro c
 induction c with
 |region id ops dr=>
  intro h
  cases dr with
  |true=>exact h
  |false=>unfold gC;trivial
 |seq a b iha ihb=>
  intro h;unfold lQ at h;rw [Bool.and_eq_true] at h;exact ⟨iha h.1,ihb h.2⟩
 |cond x a b iha ihb=>
  intro h;unfold lQ at h;rw [Bool.and_eq_true] at h;exact ⟨iha h.1,ihb h.2⟩
 |block id a ih=>
  intro h
  by_cases hb:∃b',a=.loop b'
  ·obtain ⟨b',rfl⟩:=hb;unfold gC;trivial
  ·cases a with
   |loop b'=>exact absurd ⟨b',rfl⟩ hb
   |_=>unfold lQ at h;unfold gC;exact ih h
 |_=>intro _;unfold gC;trivial
def Src.same:Src→Src→Bool
 |.tmp a,.tmp b=>Nat.beq a b
 |.cell a,.cell b=>Nat.beq a b
 |.ptr a,.ptr b=>Nat.beq a b
 |_,_=>false
theorem Src.EE:{a b:Src}→a.same b=true→a=b
 |.tmp _,.tmp _,h=>congrArg Src.tmp (Nat.eq_of_beq_eq_true h)
 |.cell _,.cell _,h=>congrArg Src.cell (Nat.eq_of_beq_eq_true h)
 |.ptr _,.ptr _,h=>congrArg Src.ptr (Nat.eq_of_beq_eq_true h)
 |.tmp _,.cell _,h=>by cases h
 |.tmp _,.ptr _,h=>by cases h
 |.cell _,.tmp _,h=>by cases h
 |.cell _,.ptr _,h=>by cases h
 |.ptr _,.tmp _,h=>by cases h
 |.ptr _,.cell _,h=>by cases h
def OM (T:pA):List ResultVar→List RP→Bool
 | [],[]=>true
 |.tmp t::vs,r::rs=>(r.src.same (.tmp t)||r.src.same (.ptr t))&&OM T vs rs
 |.cell t ty::vs,r::rs=>r.src.same (.cell t)&&((match T.cells ty with | some n=>Nat.beq n r.ps.length | none=>false)&&((T.agg ty==r.agg)&&OM T vs rs))
 |_,_=>false
theorem Cw {T:pA} (tm:Array Value):(vs:List ResultVar)→(rs:List RP)→OM T vs rs=true→Dh T tm vs rs
 | [],[],_=>trivial
 | [],_::_,h=>by simp [OM] at h
 |v::_,[],h=>by cases v<;>simp [OM] at h
 |.tmp t::vs,r::rs,h=>by
  unfold OM at h;rw [Bool.and_eq_true,Bool.or_eq_true] at h;exact ⟨h.1.imp Src.EE Src.EE,Cw tm vs rs h.2⟩
 |.cell t ty::vs,r::rs,h=>by
  unfold OM at h;rw [Bool.and_eq_true,Bool.and_eq_true,Bool.and_eq_true] at h;obtain ⟨h1,h2,h3,h4⟩:=h;refine ⟨⟨Src.EE h1,?_,by simpa using h3⟩,Cw tm vs rs h4⟩
  cases hc:T.cells ty with
  |none=>rw [hc] at h2;cases h2
  |some n=>rw [hc] at h2;rw [Nat.eq_of_beq_eq_true h2]
abbrev adr:=List (Nat×(Pm×Pm×Pm×AS))
def Dk:adr→nF
 | [],_=>none
 |(g,s)::l,f=>bif Nat.beq f g then some s else Dk l f
structure sm (P:Program) (f:FuncId) (Hc:AS):Prop where
 ok:FnOk P f Hc
 fn:∃fn,P.funcs[f]?=some fn∧(fn.name == "runtime.NumGoroutine")=false∧fn.body.isNone=false
theorem Xq {P:Program}:pL P (Dk []):=fun f a b c Hc h=>by cases h
theorem Ui {P:Program} {g:Nat} {a b c:Pm} {Hc:AS} {l:adr} (hk:sm P g Hc) (hl:pL P (Dk l)):pL P (Dk ((g,(a,b,c,Hc))::l)):=by
 intro f a' b' c' ap0 h;unfold Dk at h
 cases hb:Nat.beq f g with
 |true=>
  rw [hb] at h;injection h with h;injection h with _ h;injection h with _ h;injection h with _ h;subst h;rw [Nat.eq_of_beq_eq_true hb];exact ⟨hk.ok,hk.fn⟩
 |false=>rw [hb] at h;exact hl f a' b' c' ap0 h
def fnB (T:pA) (D:nO) (fn:Func) (code:Code) (n:Nat) (ps:List AP) (rs:List RP):Bool:=
 Nat.beq fn.ntmps n&&(Nat.ble ps.length n&&(iK n code&&(OM T fn.results.toList rs&&lQ D code)))
theorem aaE {P:Program} {tr:Tr} (hT:tr.all (yn P)=true) (hE:yX P (mv tr)) (hm:P.follows .mixedOrders=true) {S:nF} (hS:pL P S) {D:nO} {f:FuncId} {fn:Func} {code:Code} {n:Nat} {ps:List AP} {rs:List RP}
  {L:qN (aO (eE rs (cU ps)))} {t:aO (aM (ps.map some))→Option (aO (eE rs (cU ps)))}
  (hf:P.funcs[f]?=some fn) (hb:fn.body=some code) (tV:fnB (mv tr) D fn code n ps rs=true) (ON:(fn.name == "runtime.NumGoroutine")=false)
  (hL:∀(w0:World) (mu:Mu) (y:aO (eE rs (cU ps))),qg ps mu→∀p∈fM code,qt P w0 mu n L y p.1 p.2)
  (QI:∀x,ib (mv tr) S D L code (start n ps x) (FE rs ps)=t x):sm P f (ow ps rs t):=by
 unfold fnB at tV;rw [Bool.and_eq_true,Bool.and_eq_true,Bool.and_eq_true,Bool.and_eq_true] at tV;obtain ⟨h1,h2,h3,h4,h5⟩:=tV;refine ⟨aka (lj hT) hE hS hf hb (Nat.eq_of_beq_eq_true h1) (Nat.le_of_ble_eq_true h2) h3 (fun tm=>Cw tm _ _ h4) (fun w0 mu y hs=>u4 code (hL w0 mu y hs))
  (fun w0 mu=>vH (lj hT) hE hm (rn (lj hT) hE hS w0 mu n)) (xt code h5) QI,fn,hf,ON,by rw [hb];rfl⟩
def Lr (D:nO) (ps:List AP) (hp e0 e1:List (Option AP)) (n:Nat) (b:Code):Bool:=
 (iL ps hp&&(iL ps e0&&iL ps e1))&&(iK n b&&lQ D b)
theorem Uj {R:Type} {P:Program} {tr:Tr} (hT:tr.all (yn P)=true) (hE:yX P (mv tr)) (hm:P.follows .mixedOrders=true) {S:nF} (hS:pL P S) {D:nO} {n id:Nat} {w0:World} {mu:Mu} {ps:List AP} {hp e0 e1:List (Option AP)} {b:Code} {r:R} {L:qN R}
  {L':qN (Sum (aO (aM hp)) (Sum (aO (aM e0)) (aO (aM e1))))} {round:aO (aM hp)→Option (Sum (aO (aM hp)) (Sum (aO (aM e0)) (aO (aM e1))))}
  (hs:qg ps mu) (tV:Lr D ps hp e0 e1 n b=true)
  (Hf:∀z,∀p∈fM b,qt P w0 mu n L' z p.1 p.2) (QJ:∀x,ib (mv tr) S D L' b (qz hp x) (FH id hp e0 e1)=round x) (hL:∀st k,L id b st k=FI hp e0 e1 round st k):qt P w0 mu n L r id b:=by
 unfold Lr at tV;rw [Bool.and_eq_true,Bool.and_eq_true (iK n b)] at tV;exact aaB (rn (lj hT) hE hS w0 mu n) (vH (lj hT) hE hm (rn (lj hT) hE hS w0 mu n)) hs tV.1 tV.2.1 (xt b tV.2.2) (fun z=>u4 b (Hf z)) QJ hL
def bU {A B C:Type} (o:Option (Sum A B)) (f:A→Option C) (g:B→Option C):Option C:=
 o.bind fun z=>match z with
  |.inl y=>f y
  |.inr y=>g y
end Go.TM
namespace Go.TM
open Go Go.RowKit Go.ChangeShapes
def RT.app:RT→RT→RT
 |.nil,s=>s
 |.cons t r,s=>.cons t (r.app s)
def aaF:(r s:RT)→aO r→aO s→aO (r.app s)
 |.nil,_,_,y=>y
 |.cons _ r,s,x,y=>(x.1,aaF r s x.2 y)
mutual
def Km:(t:Ty)→den t→Prop
 |.int k,n=>(Lit.int k n).wf=true
 |.bool,_=>True
 |.str,s=>ByteArray.size s≤maxLen
 |.sl r,xs=>(asL xs).length≤maxLen∧∀x∈asL xs,It r x
def It:(r:RT)→aO r→Prop
 |.nil,_=>True
 |.cons t r,x=>Km t x.1∧It r x.2
end
theorem Iu (x:aO .nil):It .nil x:=It.eq_1 x▸trivial
theorem sA {t:Ty} {r:RT} {x:aO (.cons t r)}:It (.cons t r) x↔Km t x.1∧It r x.2:=It.eq_2 t r x▸Iff.rfl
theorem ake {k:IntKind} {n:Int}:Km (.int k) n↔(Lit.int k n).wf=true:=Km.eq_1 k n▸Iff.rfl
theorem ads {b:Bool}:Km .bool b:=Km.eq_2 b▸trivial
theorem akf {s:ByteArray}:Km .str s↔ByteArray.size s≤maxLen:=Km.eq_3 s▸Iff.rfl
theorem akg {r:RT} {xs:List (aO r)}:Km (.sl r) xs↔(xs.length≤maxLen∧∀x∈xs,It r x):=Km.eq_4 r xs▸Iff.rfl
theorem RT.FJ:(r s:RT)→(r.app s).width=r.width+s.width
 |.nil,s=>by simp [RT.app,RT.width]
 |.cons t r,s=>by simp [RT.app,RT.width,RT.FJ r s];omega
theorem eG.cat {w:World} {ok:Nat→Prop}:(r s:RT)→(l m:List Value)→(x:aO r)→(y:aO s)→eG w ok r l x→eG w ok s m y→eG w ok (r.app s) (l++m) (aaF r s x y)
 |.nil,s,l,m,x,y,h,h'=>by
  have:l=[]:=h;subst this;exact h'
 |.cons t r,s,l,m,x,y,h,h'=>by
  obtain ⟨v,l',rfl,h1,h2⟩:=h;exact ⟨v,l'++m,rfl,h1,eG.cat r s l' m x.2 y h2 h'⟩
theorem It.cat:(r s:RT)→(x:aO r)→(y:aO s)→It r x→It s y→It (r.app s) (aaF r s x y)
 |.nil,_,_,_,_,h'=>h'
 |.cons t r,s,x,y,h,h'=>by
  exact sA.2 ⟨(sA.1 h).1,It.cat r s x.2 y (sA.1 h).2 h'⟩
def Iv (P:Program) (row:TypeId→Option RT):Nat→List Field→Option RT
 |_,[]=>some .nil
 |off,f::fs=>match row f.type with
  |some q=>(match Iv P row (off+q.width) fs with
   |some r=>bif Nat.beq f.offset off&&Nat.beq (P.cellsOf f.type) q.width then some (q.app r) else none
   |none=>none)
  |none=>none
def Iw (P:Program):Nat→TypeId→Option RT
 |0,_=>none
 |n+1,t=>match P.underlying t with
  |some .bool=>some (.cons .bool .nil)
  |some (.int k)=>some (.cons (.int k) .nil)
  |some .string=>some (.cons .str .nil)
  |some (.slice e)=>(match Iw P n e with
   |some q=>bif Nat.beq (P.cellsOf e) q.width&&Nat.blt 0 q.width then some (.cons (.sl q) .nil) else none
   |none=>none)
  |some (.struct fs)=>(match Iv P (Iw P n) 0 fs.toList with
   |some r=>bif Nat.beq (P.cellsOf t) r.width then some r else none
   |none=>none)
  |_=>none
theorem SL {α:Type} {Pr:Nat→α→Prop}:(n:Nat)→(∀i,i<n→∃x,Pr i x)→∃xs:List α,xs.length=n∧∀(i:Nat) x,xs[i]?=some x→Pr i x
 |0,_=>⟨[],rfl,fun i x h=>by simp at h⟩
 |n+1,h=>by
  obtain ⟨xs,h1,h2⟩:=SL n (fun i hi=>h i (by omega));obtain ⟨x,hx⟩:=h n (by omega);refine ⟨xs++[x],by simp [h1],fun i y hy => ?_⟩
  by_cases hi:i<n
  ·rw [List.getElem?_append_left (by omega)] at hy;exact h2 i y hy
  ·rw [List.getElem?_append_right (by omega)] at hy;have Hf:i=n:=by
    have:=(List.getElem?_eq_some_iff.1 hy).1;simp at this;omega
   subst Hf;rw [h1,Nat.sub_self] at hy;simp at hy;rw [←hy];exact hx
theorem Ls {w:World} {a:Addr} {v:Value} (h:w.cell? a=some v):a.spot=none:=by
 unfold World.cell? at h
 split at h
 ·split at h
  ·cases h
  ·rename_i hs;simpa using hs
 ·cases h
theorem OO {α β:Type} {f:α→Option β}:(l:List α)→{m:List β}→l.mapM f=some m→m.length=l.length∧∀(i:Nat) a,l[i]?=some a→f a=m[i]?
 | [],m,h=>by
  simp at h;subst h;exact ⟨rfl,fun i a ha=>by simp at ha⟩
 |a::l,m,h=>by
  rw [List.mapM_cons] at h
  cases ha:f a with
  |none=>simp [ha] at h
  |some b=>
   cases hl:l.mapM f with
   |none=>simp [ha,hl] at h
   |some m'=>
    simp [ha,hl] at h;subst h;obtain ⟨h1,h2⟩:=OO l hl;refine ⟨by simp [h1],fun i x hx => ?_⟩
    cases i with
    |zero=>simp at hx;subst hx;simpa using ha
    |succ i=>simpa using h2 i x (by simpa using hx)
theorem GG {w:World} {base n:Nat} {a:Addr} {vs:List Value} (h:w.cells? base a n=some vs):vs.length=n∧w.rangeAt a.block a.off vs∧(0<n→a.spot=none):=by
 unfold World.cells? at h
 split at h
 ·obtain ⟨h1,h2⟩:=OO _ h;simp at h1;have each:∀j v,vs[j]?=some v→w.cell? (a.add j)=some v:=by
   intro j v hv;have hj:j<n:=by
    have:=(List.getElem?_eq_some_iff.1 hv).1;omega
   rw [h2 j j (by simp [hj]),hv]
  refine ⟨h1,fun j v hv => ?_,fun hn => ?_⟩
  ·have:=each j v hv;have hs:=Ls this;have e:a.add j=⟨a.block,a.off+j,none⟩:=by
    unfold Addr.add at hs ⊢
    split
    ·rename_i h0;subst h0;rw [if_pos rfl] at hs;obtain ⟨b,o,s⟩:=a;simp at hs;subst hs;rfl
    ·rfl
   rw [←e];exact this
  ·have dB:0<vs.length:=by omega
   have:=each 0 vs[0] (by simp [dB]);have hs:=Ls this;simpa [Addr.add] using hs
 ·cases h
theorem Lt {P:Program} {w:World} {cs:List Value} {row:TypeId→Option RT}:(fs:List Field)→(off:Nat)→(r:RT)→Iv P row off fs=some r→
  (∀f∈fs,∀q,row f.type=some q→∃x:aO q,eG w (fun _=>True) q ((cs.drop f.offset).take (P.cellsOf f.type)) x∧It q x)→off+r.width≤cs.length→
  ∃x:aO r,eG w (fun _=>True) r ((cs.drop off).take r.width) x∧It r x
 | [],off,r,h,_,_=>by
  simp only [Iv,Option.some.injEq] at h;subst h;exact ⟨(),by simp [RT.width,eG],Iu _⟩
 |f::fs,off,r,h,hf,hl=>by
  unfold Iv at h
  cases hq:row f.type with
  |none=>simp [hq] at h
  |some q=>
   simp only [hq] at h
   cases hr:Iv P row (off+q.width) fs with
   |none=>simp [hr] at h
   |some r'=>
    simp only [hr] at h;obtain ⟨h1,h2⟩:=bM h;injection h2 with h2;subst h2;rw [Bool.and_eq_true] at h1;have ho:=Nat.eq_of_beq_eq_true h1.1;have hc:=Nat.eq_of_beq_eq_true h1.2;rw [RT.FJ] at hl;obtain ⟨x,Qw,MH⟩:=hf f List.mem_cons_self q hq;obtain ⟨y,hy1,hy2⟩:=Lt fs (off+q.width) r' hr (fun g hg=>hf g (List.mem_cons_of_mem _ hg)) (by omega);refine ⟨aaF q r' x y,?_,It.cat q r' x y MH hy2⟩;rw [RT.FJ,List.take_add,List.drop_drop];rw [ho,hc] at Qw;exact eG.cat q r' _ _ x y Qw hy1
theorem MN {H:Type} {enc:TypeId×Value→H} {P:Program} {w:World} {base:Nat} {spare:Nat→Bool} {held:Bool}:(n:Nat)→∀ {t:TypeId} {r:RT} {fuel:Nat} {cs:List Value} {y:DataW H×List MemPlace},Iw P n t=some r→
  DataW.trod enc P w base spare held fuel t cs=some y→∃x:aO r,eG w (fun _=>True) r cs x∧It r x
 |0,_,_,_,_,_,h,_=>by cases h
 |n+1,t,r,fuel,cs,y,h,hd=>by
  unfold Iw at h
  cases hu:P.underlying t with
  |none=>simp [hu] at h
  |some d=>
   cases d with
   |bool=>
    simp only [hu,Option.some.injEq] at h;subst h;obtain ⟨b,rfl,_⟩:=DataW.trod_bool hu hd;exact ⟨((b:Bool),()),⟨_,_,rfl,Ck.2 rfl,rfl⟩,sA.2 ⟨ads,Iu _⟩⟩
   |int k=>
    simp only [hu,Option.some.injEq] at h;subst h;obtain ⟨m,rfl,_,hw⟩:=DataW.trod_int hu hd;exact ⟨((m:Int),()),⟨_,_,rfl,yS.2 rfl,rfl⟩,sA.2 ⟨ake.2 hw,Iu _⟩⟩
   |string=>
    simp only [hu,Option.some.injEq] at h;subst h;obtain ⟨s,rfl,_,hw⟩:=DataW.trod_string hu hd;exact ⟨((s:ByteArray),()),⟨_,_,rfl,Ft.2 rfl,rfl⟩,sA.2 ⟨akf.2 hw,Iu _⟩⟩
   |slice e=>
    simp only [hu] at h
    cases hq:Iw P n e with
    |none=>simp [hq] at h
    |some q=>
     simp only [hq] at h;obtain ⟨h1,h2⟩:=bM h;injection h2 with h2;subst h2;rw [Bool.and_eq_true] at h1;have hw:=Nat.eq_of_beq_eq_true h1.1;have adt:0<q.width:=Nat.le_of_ble_eq_true h1.2;rcases DataW.trod_slice hu hd with ⟨rfl,_⟩ | ⟨a,len,cap,elems,rest,m,_,rfl,_,hb,hl,hm,hlen,hel,_,_⟩
     ·exact ⟨(([]:List (aO q)),()),⟨_,_,rfl,(si _ _ _ _ _).2 (.inl ⟨rfl,rfl⟩),rfl⟩,sA.2 ⟨akg.2 ⟨Nat.zero_le _,fun x hx=>by cases hx⟩,Iu _⟩⟩
     ·have each:∀i,i<len→∃x:aO q,(fP w (fun _=>True) q a.block (a.off+i*q.width) x∧It q x)∧a.spot=none∧a.block<w.heap.size:=by
       intro i hi;have h3:=hel i hi;rw [List.getElem?_eq_getElem (by omega),Option.bind_eq_some_iff] at h3;obtain ⟨vs,Hd,hy⟩:=h3;obtain ⟨x,hx,hs⟩:=MN n hq hy;obtain ⟨g1,g2,g3⟩:=GG Hd;have hbk:(a.add (i*P.cellsOf e)).block=a.block:=by unfold Addr.add;split<;>rfl
       have hof:(a.add (i*P.cellsOf e)).off=a.off+i*q.width:=by
        unfold Addr.add;rw [hw]
        split
        ·rename_i h0;rw [h0];rfl
        ·rfl
       rw [hbk,hof] at g2;refine ⟨x,⟨(mR q _ _ x).2 ⟨vs,g2,hx⟩,hs⟩,?_,?_⟩
       ·have h4:=hel 0 (by omega);rw [List.getElem?_eq_getElem (by omega),Option.bind_eq_some_iff] at h4;obtain ⟨vs0,ap2,_⟩:=h4;have:=(GG ap2).2.2 (by omega);simpa [Addr.add] using this
       ·have dB:0<vs.length:=by omega
        have h5:=Sp (g2 0 vs[0] (by simp [dB]));exact h5
      obtain ⟨xs,Qw,MH⟩:=SL len each;refine ⟨((xs:List (aO q)),()),⟨_,_,rfl,(si _ _ _ _ _).2 (.inr ⟨a,cap,by rw [Qw],by rw [Qw];exact hl,fun mn => ?_,fun i x hi=>(MH i x hi).1.1⟩),rfl⟩,?_⟩
      ·have dB:0<xs.length:=List.length_pos_iff.2 mn;have:=(MH 0 xs[0] (by simp [dB])).2;exact ⟨this.1,this.2,trivial⟩
      ·refine sA.2 ⟨akg.2 ⟨by show xs.length≤maxLen;omega,fun x hx => ?_⟩,Iu _⟩;obtain ⟨i,hi⟩:=List.getElem?_of_mem hx;exact (MH i x hi).1.2
   |struct fs=>
    simp only [hu] at h
    cases hq:Iv P (Iw P n) 0 fs.toList with
    |none=>simp [hq] at h
    |some q=>
     simp only [hq] at h;obtain ⟨h1,h2⟩:=bM h;injection h2 with h2;subst h2;have hw:=Nat.eq_of_beq_eq_true h1;obtain ⟨xs,m,_,_,hlen,hxs,hel⟩:=DataW.trod_struct hu hd;obtain ⟨x,g1,g2⟩:=Lt (w:=w) (cs:=cs) fs.toList 0 q hq (fun f hf p hp=>by
      obtain ⟨i,hi⟩:=List.getElem?_of_mem hf;rw [Array.getElem?_toList] at hi;have h3:=hel i f hi;have dB:i<fs.size:=(Array.getElem?_eq_some_iff.1 hi).1;rw [List.getElem?_eq_getElem (by omega)] at h3;exact MN n hp h3) (by omega)
     refine ⟨x,?_,g2⟩;have:(cs.drop 0).take q.width=cs:=by rw [List.drop_zero,List.take_of_length_le (by omega)]
     rwa [this] at g1
   |_=>simp [hu] at h
end Go.TM
namespace Go.TM
open Go Go.RowKit Go.ChangeShapes
mutual
theorem Ty.Bw:(t:Ty)→Ty.eq? t t=some ⟨rfl⟩
 |.int k=>by simp [Ty.eq?]
 |.bool=>rfl
 |.str=>rfl
 |.sl r=>by simp [Ty.eq?,RT.Bw r]
theorem RT.Bw:(r:RT)→RT.eq? r r=some ⟨rfl⟩
 |.nil=>rfl
 |.cons t r=>by simp [RT.eq?,Ty.Bw t,RT.Bw r]
end
theorem QN (r:RT) (xs:List (aO r)):ek r xs=some xs:=by
 unfold ek;rw [RT.Bw]
theorem xu {p:OP} {ps:List OP} {t:RT} {o:OV} {os:List OV} {y:aO t} {x:den p.ty} {z:aO (pZ ps t)} (h1:we p o=some x) (h2:fL ps t os y=some z):fL (p::ps) t (o::os) y=some ((x,z):aO (pZ (p::ps) t)):=by
 unfold fL;rw [h1,h2];rfl
theorem Uk {k:IntKind} {n:Int}:we (.int k) (.int k n)=some n:=if_pos rfl
def rq:RT→List OP
 |.nil=>[]
 |.cons (.int k) r=>.int k::rq r
 |.cons .bool r=>.bool::rq r
 |.cons .str r=>.str::rq r
 |.cons (.sl q) r=>.shr q::rq r
def Cz.free:Cz:={ bx:=fun _=>0,lc:=fun _ _=>.nil,own:=fun _=>none }
theorem OQ {w:World} {f:Nat→Lb}:(r:RT)→(t:RT)→(j:Nat)→(vs:List Value)→(x:aO r)→(y:aO t)→eG w (fun _=>True) r vs x→It r x→
  ∃z:aO (pZ (rq r) t),cN Cz.free w f j (fT (rq r) t z).1 vs∧fL (rq r) t (fT (rq r) t z).1 y=some z∧(It t y→It (pZ (rq r) t) z)
 |.nil,t,j,vs,x,y,h,_=>by
  have:vs=[]:=h;subst this;exact ⟨y,rfl,rfl,id⟩
 |.cons ty r,t,j,vs,x,y,h,hs=>by
  obtain ⟨v,l,rfl,h1,h2⟩:=h;obtain ⟨s1,s2⟩:=sA.1 hs;obtain ⟨z,g1,g2,g3⟩:=OQ (f:=f) r t (j+1) l x.2 y h2 s2
  cases ty with
  |int k=>
   refine ⟨(x.1,z),⟨l,by rw [yS.1 h1],g1⟩,?_,fun hy=>sA.2 ⟨s1,g3 hy⟩⟩;exact xu (p:=.int k) (o:=.int k x.1) (Uk) g2
  |bool=>
   refine ⟨(x.1,z),⟨l,by rw [Ck.1 h1],g1⟩,?_,fun hy=>sA.2 ⟨s1,g3 hy⟩⟩;exact xu (p:=.bool) (o:=.bool x.1) (rfl) g2
  |str=>
   refine ⟨(x.1,z),⟨l,by rw [Ft.1 h1],g1⟩,?_,fun hy=>sA.2 ⟨s1,g3 hy⟩⟩;exact xu (p:=.str) (o:=.str x.1) (rfl) g2
  |sl q=>
   refine ⟨(x.1,z),⟨v,l,rfl,eD.stays ⟨Nat.le_refl _,fun _ _ _=>rfl,fun _ _ _=>rfl⟩ _ _ _ h1,g1⟩,?_,fun hy=>sA.2 ⟨s1,g3 hy⟩⟩;exact xu (p:=.shr q) (o:=.shr q x.1) (QN q x.1) g2
def OP.same:OP→OP→Bool
 |.int k,.int l=>decide (k=l)
 |.bool,.bool=>true
 |.str,.str=>true
 |.shr r,.shr s=>(RT.eq? r s).isSome
 |_,_=>false
theorem OP.EE {p q:OP} (h:p.same q=true):p=q:=by
 cases p<;>cases q<;>simp [OP.same] at h
 ·rw [h]
 ·rfl
 ·rfl
 ·rename_i r s;obtain ⟨⟨e⟩,_⟩:=Option.isSome_iff_exists.1 h;rw [e]
def Cx:List OP→List OP→Bool
 | [],[]=>true
 |p::l,q::m=>p.same q&&Cx l m
 |_,_=>false
theorem Ix:(l m:List OP)→Cx l m=true→l=m
 | [],[],_=>rfl
 |p::l,q::m,h=>by
  unfold Cx at h;rw [Bool.and_eq_true] at h;rw [OP.EE h.1,Ix l m h.2]
 | [],_::_,h=>by simp [Cx] at h
 |_::_,[],h=>by simp [Cx] at h
def Qg (P:Program):List TypeId→List AP→Bool
 | [],[]=>true
 |t::ts,.val agg os::ps=>(match Iw P 30 t with
   |some r=>Cx (rq r) os
   |none=>false)&&((match P.underlying t with | some (.struct _)=>agg | _ => !agg)&&(P.readableRec t&&(Nat.blt t P.types.size&&Qg P ts ps)))
 |_,_=>false
theorem one_cell {P:Program} {w:World} {r:Reach} {b:Nat} {t:TypeId} {v:Value} {rt:RT} (hn:Iw P 30 t=some rt) (hs:∀fs,P.underlying t≠some (.struct fs)) (h:Value.okWide P w r b t v):v.cells.toList=[v]:=by
 cases hu:P.underlying t with
 |none=>simp [Iw,hu] at hn
 |some d=>
  cases v<;>try rfl
  rename_i cs
  exfalso
  cases d<;>first | exact hs _ hu | (simp [Iw,hu] at hn;done) | (simp [Value.okWide,hu,Cell.okWide,Cell.ok] at h)
theorem Lu {H:Type} {enc:TypeId×Value→H} {P:Program} {w:World} {lc:Nat→Nat→Loc}:(ts:List TypeId)→(ps:List AP)→Qg P ts ps=true→(i:Nat)→(vs:List Value)→(ds:List (DataW H))→(p:List MemPlace)→
  (∀(j:Nat) t v,ts[j]?=some t→vs[j]?=some v→∃b,Value.okWide P w .any b t v)→DataW.TrodAll enc P w 0 (fun _=>true) true ts vs ds p→
  ∃(x:aO (aM (ps.map some))) (gq:List AV),iE ps gq=some x∧De Cz.free w lc i gq vs∧It (aM (ps.map some)) x
 | [],[],_,i,vs,ds,p,_,hA=>by
  obtain ⟨rfl,_,_⟩:=trodAll_nil hA;exact ⟨(),[],rfl,rfl,Iu _⟩
 | [],_::_,hb,_,_,_,_,_,_=>by simp [Qg] at hb
 |t::ts,[],hb,_,_,_,_,_,_=>by simp [Qg] at hb
 |t::ts,.io _ _::_,hb,_,_,_,_,_,_=>by simp [Qg] at hb
 |t::ts,.box _ _::_,hb,_,_,_,_,_,_=>by simp [Qg] at hb
 |t::ts,.dX _::_,hb,_,_,_,_,_,_=>by simp [Qg] at hb
 |t::ts,.val agg os::ps,hb,i,vs,ds,p,yZ,hA=>by
  obtain ⟨v,vs',d,ds',p',q',rfl,rfl,rfl,h1,h2⟩:=trodAll_cons hA;unfold Qg at hb;rw [Bool.and_eq_true,Bool.and_eq_true,Bool.and_eq_true,Bool.and_eq_true] at hb;obtain ⟨b1,b2,_,_,b5⟩:=hb;obtain ⟨y,gq,g1,g2,g3⟩:=Lu (lc:=lc) ts ps b5 (i+1) vs' ds' q' (fun j t v ht hv=>yZ (j+1) t v (by simpa using ht) (by simpa using hv)) h2;obtain ⟨b0,je⟩:=yZ 0 t v rfl rfl
  cases hr:Iw P 30 t with
  |none=>rw [hr] at b1;cases b1
  |some r=>
   rw [hr] at b1;have ye:=Ix _ _ b1;subst ye;obtain ⟨fuel,hd⟩:=h1;obtain ⟨x,Qw,MH⟩:=MN 30 hr hd;obtain ⟨z,k1,k2,k3⟩:=OQ (f:=.dC i) r (aM (ps.map some)) 0 v.cells.toList x y Qw MH
   cases agg with
   |false=>
    have hs:∀fs,P.underlying t≠some (.struct fs):=by
     intro fs e;rw [e] at b2
     cases b2
    rw [one_cell hr hs je] at k1;refine ⟨z,.val false (fT (rq r) (aM (ps.map some)) z).1::gq,?_,⟨v,vs',rfl,k1,g2⟩,k3 g3⟩;show (match iE ps gq with | some y=>Lj (.val false (rq r)) (aM (ps.map some)) (.val false _) y | none=>none)=_;rw [g1];exact k2
   |true=>
    obtain ⟨fs,hu⟩:∃fs,P.underlying t=some (.struct fs):=by
     cases hu:P.underlying t with
     |none=>rw [hu] at b2;cases b2
     |some d=>
      rw [hu] at b2
      cases d<;>first | exact ⟨_,rfl⟩ | cases b2
    obtain ⟨cs,rfl,_⟩:∃cs,v=.agg cs∧True:=by
     unfold Value.okWide at je;rw [hu] at je;obtain ⟨cs,e,_⟩:=je;exact ⟨cs,e,trivial⟩
    refine ⟨z,.val true (fT (rq r) (aM (ps.map some)) z).1::gq,?_,⟨.agg cs,vs',rfl,⟨cs,rfl,k1⟩,g2⟩,k3 g3⟩;show (match iE ps gq with | some y=>Lj (.val true (rq r)) (aM (ps.map some)) (.val true _) y | none=>none)=_;rw [g1];exact k2
theorem Lv {H:Type} {enc:TypeId×Value→H} {P:Program} (hl:laidOutB P=true) {W W':World} (hb:Below W.heap.size W W'):(ts:List TypeId)→(ps:List AP)→Qg P ts ps=true→(vs:List Value)→(ds:List (DataW H))→(p:List MemPlace)→(∀x∈p,x.block<W.heap.size)→
  DataW.TrodAll enc P W 0 (fun _=>true) true ts vs ds p→DataW.TrodAll enc P W' 0 (fun b=>decide (b<W.heap.size)) true ts vs ds p
 | [],[],_,vs,ds,p,_,hA=>by
  obtain ⟨rfl,rfl,rfl⟩:=trodAll_nil hA;exact trodAll_mk0
 | [],_::_,hb,_,_,_,_,_=>by simp [Qg] at hb
 |t::ts,[],hb,_,_,_,_,_=>by simp [Qg] at hb
 |t::ts,.io _ _::_,hb,_,_,_,_,_=>by simp [Qg] at hb
 |t::ts,.box _ _::_,hb,_,_,_,_,_=>by simp [Qg] at hb
 |t::ts,.dX _::_,hb,_,_,_,_,_=>by simp [Qg] at hb
 |t::ts,.val agg os::ps,hp,vs,ds,p,dB,hA=>by
  obtain ⟨v,vs',d,ds',p',q',rfl,rfl,rfl,h1,h2⟩:=trodAll_cons hA;unfold Qg at hp;rw [Bool.and_eq_true,Bool.and_eq_true,Bool.and_eq_true,Bool.and_eq_true] at hp;obtain ⟨_,_,b3,b4,b5⟩:=hp;exact trodAll_cons_mk (Below.trod hl b3 (Nat.le_of_ble_eq_true b4) h1 hb (fun x hx=>dB x (List.mem_append_left _ hx))) (Lv hl hb ts ps b5 vs' ds' q' (fun x hx=>dB x (List.mem_append_right _ hx)) h2)
theorem Ul {H:Type} {enc:TypeId×Value→H} {P:Program} (hl:laidOutB P=true) {f:FuncId} {ps:List AP} {s:Nat} {t:aO (aM (ps.map some))→Option (aO (eE [{ src:=.tmp s,agg:=false,ps:=[.bool] }] (cU ps)))}
  (hk:sm P f (ow ps [{ src:=.tmp s,agg:=false,ps:=[.bool] }] t)) {ts:List TypeId} (hps:Qg P ts ps=true) (ap4:∀x,It (aM (ps.map some)) x→∃y,t x=some y∧y.1=true)
  {W:World} {base:Nat} {args:Array Value} {ds:List (DataW H)} {p:List MemPlace} (yZ:∀(j:Nat) t v,ts[j]?=some t→args[j]?=some v→Value.okWide P W .any base t v)
  (hA:DataW.TrodAll enc P W 0 (fun _=>true) true ts args.toList ds p) (dB:∀x∈p,x.block<W.heap.size) :
  Calls P f args W fun e W'=>e=.returned (.bool true)∧Below W.heap.size W W'∧DataW.TrodAll enc P W' 0 (fun b=>decide (b<W.heap.size)) true ts args.toList ds p:=by
 obtain ⟨x,gq,h1,h2,h3⟩:=Lu (lc:=fun _ _=>.nil) ts ps hps 0 args.toList ds p (fun j t v ht hv=>⟨base,yZ j t v ht (by rwa [Array.getElem?_toList] at hv)⟩) hA;obtain ⟨y,hy,hy1⟩:=ap4 x h3
 let μ:Mu:={ m:=fun _=>False,ok:=fun _=>True,an:=[] }
 have hH:Handed Cz.free W μ:={
  m:=fun b=>⟨fun h=>h.elim,fun ⟨l,h,_⟩=>by cases h⟩
  ok:=fun b=>⟨fun _=>rfl,fun _=>trivial⟩
  lt:=fun b l h=>by cases h
  lb:=fun b l h=>by cases h }
 have hs:ow ps [{ src:=.tmp s,agg:=false,ps:=[.bool] }] t gq=some { r:=eE [{ src:=.tmp s,agg:=false,ps:=[.bool] }] (cU ps),o:=t x,res:=fun y=>{ outs:=(jg [{ src:=.tmp s,agg:=false,ps:=[.bool] }] (cU ps) y).1,exts:=qy ps (jg [{ src:=.tmp s,agg:=false,ps:=[.bool] }] (cU ps) y).2 } }:=by
  unfold ow;rw [h1]
 refine (hk.ok Cz.free W μ (fun _ _=>.nil) gq args _ y hH h2 hs hy).mono fun e W' ⟨v,he,c',hb,hV,_⟩ => ?_
 have aki:Below W.heap.size W W':=⟨hb.kept.1,hb.kept.2.1,hb.kept.2.2.1,hb.kept.2.2.2,fun k hk=>hb.old k hk (fun h=>h.elim)⟩;have hv:v=.bool true:=by
  have hV:wa c' W' [.one (.bool y.1)] v:=hV;rcases hV with ⟨r,e1,g⟩ | ⟨g,_⟩
  ·simp only [List.cons.injEq,and_true] at e1;subst e1;obtain ⟨v',l,e2,g2,_⟩:=g;simp only [List.cons.injEq] at e2;obtain ⟨e2,_⟩:=e2;obtain ⟨l',g3,_⟩:=g2;simp only [List.cons.injEq] at g3;rw [e2,g3.1,hy1]
  ·simp at g
 exact ⟨by rw [he,hv],aki,Lv hl aki ts ps hps args.toList ds p dB hA⟩
theorem fj {a:Int} (h1 : -9223372036854775808≤a) (h2:a<9223372036854775808):IntKind.i64.wrap a=a:=by
 rw [IntKind.wrap_i64];omega
theorem tI {X E:Type} {round:X→Option (Sum X E)} {n:Nat} (st:Nat→X) (g:Nat→Option E) (Xr:∃e,round (st n)=some (.inr e)∧g n=some e)
  (GH:∀k,k<n→(∃e,round (st k)=some (.inr e)∧g k=some e)∨(round (st k)=some (.inl (st (k+1)))∧g k=g (k+1))):∀k,k≤n→aI round (st k)=g k:=by
 have key:∀d k,k+d=n→aI round (st k)=g k:=by
  intro d
  induction d with
  |zero=>
   intro k hk;have:k=n:=by omega
   subst this;obtain ⟨e,h1,h2⟩:=Xr;rw [lP,h1,h2]
  |succ d ih=>
   intro k hk;rcases GH k (by omega) with ⟨e,h1,h2⟩ | ⟨h1,h2⟩
   ·rw [lP,h1,h2]
   ·rw [lP,h1,h2];exact ih (k+1) (by omega)
 intro k hk;exact key (n-k) k (by omega)
theorem bP {X E:Type} {round:X→Option (Sum X E)} (n:Nat) (st:Nat→X) {e:E} (Xr:round (st n)=some (.inr e))
  (GH:∀k,k<n→round (st k)=some (.inl (st (k+1)))):aI round (st 0)=some e:=
 tI st (fun _=>some e) ⟨e,Xr,rfl⟩ (fun k hk=>.inr ⟨GH k hk,rfl⟩) 0 (Nat.zero_le _)
theorem dU {X E:Type} {round:X→Option (Sum X E)} (n:Nat) (I:Nat→X→Prop) (Q:E→Prop) (Xr:∀x,I n x→∃e,round x=some (.inr e)∧Q e)
  (GH:∀k x,k<n→I k x→(∃e,round x=some (.inr e)∧Q e)∨(∃y,round x=some (.inl y)∧I (k+1) y)) {x:X} (h:I 0 x):∃e,aI round x=some e∧Q e:=by
 have key:∀d k x,k+d=n→I k x→∃e,aI round x=some e∧Q e:=by
  intro d
  induction d with
  |zero=>
   intro k x hk hI;have:k=n:=by omega
   subst this;obtain ⟨e,h1,h2⟩:=Xr x hI;exact ⟨e,by rw [lP,h1],h2⟩
  |succ d ih=>
   intro k x hk hI;rcases GH k x (by omega) hI with ⟨e,h1,h2⟩ | ⟨y,h1,h2⟩
   ·exact ⟨e,by rw [lP,h1],h2⟩
   ·obtain ⟨e,h3,h4⟩:=ih (k+1) y (by omega) h2;exact ⟨e,by rw [lP,h1];exact h3,h4⟩
 exact key n 0 x (by omega) h
theorem oA {A B C:Type} {a:A} {f:A→Option C} {g:B→Option C}:bU (some (.inl a)) f g=f a:=rfl
theorem Xs {A B C:Type} {b:B} {f:A→Option C} {g:B→Option C}:bU (some (.inr b)) f g=g b:=rfl
theorem aq {p:Prop} [Decidable p] (h:p):decide p=true:=decide_eq_true h
theorem ak {p:Prop} [Decidable p] (h:¬p):decide p=false:=decide_eq_false h
theorem aC (k:Nat):Int.toNat ((k:Nat):Int)=k:=rfl
theorem cw {a b:Nat} (h:a<b):Nat.blt a b=true:=Nat.ble_eq_true_of_le h
theorem aW {a b:Nat} (h:a≤b):Nat.ble a b=true:=Nat.ble_eq_true_of_le h
theorem au (k:Nat):decide ((0:Int)≤((k:Nat):Int))=true:=aq (by omega)
theorem aD {k n:Nat} (h:k<n):decide (((k:Nat):Int)<((n:Nat):Int))=true:=aq (by omega)
theorem aJ (n:Nat):decide (((n:Nat):Int)<((n:Nat):Int))=false:=ak (by omega)
theorem aH {k:Nat} (h:k<4611686018427387904):IntKind.i64.wrap (((k:Nat):Int)+(1:Int))=(((k+1:Nat)):Int):=by
 rw [fj]<;>omega
theorem Iy (bs:ByteArray):∀(d i:Nat) (r:List UInt8),bs.size-i=d→ByteArray.toList.loop bs i r=r.reverse++bs.data.toList.drop i
 |0,i,r,h=>by
  unfold ByteArray.toList.loop;rw [if_neg (by omega)];have:bs.data.toList.drop i=[]:=List.drop_of_length_le (by
   have:bs.data.toList.length=bs.size:=Array.length_toList;omega)
  rw [this,List.append_nil]
 |d+1,i,r,h=>by
  unfold ByteArray.toList.loop;have dB:i<bs.size:=by omega
  rw [if_pos dB,Iy bs d (i+1) _ (by omega)];have ap5:i<bs.data.toList.length:=by
   have:bs.data.toList.length=bs.size:=Array.length_toList;omega
  rw [List.reverse_cons,List.append_assoc,List.drop_eq_getElem_cons ap5]
  congr 2
  simp [ByteArray.get!,dB]
theorem Iz (bs:ByteArray):bs.toList=bs.data.toList:=by
 unfold ByteArray.toList;rw [Iy bs _ 0 [] rfl];simp
theorem Um {a b:ByteArray}:tE a b=true↔a=b:=by
 unfold tE;rw [beq_iff_eq]
 constructor
 ·intro h;rw [Iz,Iz] at h;obtain ⟨⟨x⟩⟩:=a;obtain ⟨⟨y⟩⟩:=b;exact congrArg (fun l=>ByteArray.mk ⟨l⟩) h
 ·intro h;rw [h]
theorem Dl (a:ByteArray):tE a a=true:=Um.2 rfl
def wl {α:Type} (f:α→Nat) (xs:List α):Nat:=xs.foldr (fun x n=>f x+n) 0
theorem MO {α:Type} (f:α→Nat):wl f []=0:=rfl
theorem tf {α:Type} (f:α→Nat) (x:α) (xs:List α):wl f (x::xs)=f x+wl f xs:=rfl
theorem IA {α:Type} (f:α→Nat) (xs ys:List α):wl f (xs++ys)=wl f xs+wl f ys:=by
 induction xs with
 |nil=>simp [wl]
 |cons x xs ih=>
  show f x+wl f (xs++ys)=f x+wl f xs+wl f ys;rw [ih];omega
theorem FK {α:Type} (f:α→Nat) (xs:List α):∀x∈xs,f x≤wl f xs:=by
 induction xs with
 |nil=>intro x h;cases h
 |cons y xs ih=>
  intro x h;show f x≤f y+wl f xs;rcases List.mem_cons.1 h with rfl | h
  ·omega
  ·have:=ih x h;omega
theorem qh {α:Type} (f:α→Nat) (h:∀x,f x=0) (xs:List α):wl f xs=0:=by
 induction xs with
 |nil=>rfl
 |cons y xs ih=>show f y+wl f xs=0;rw [h,ih]
theorem oB {X Y E F:Type} {r1:X→Option (Sum X E)} {r2:Y→Option (Sum Y F)} (n:Nat) (R:Nat→X→Y→Prop) (Q:E→F→Prop)
  (GH:∀k x y,k≤n→R k x y→(∃e f,r1 x=some (.inr e)∧r2 y=some (.inr f)∧Q e f)∨(k<n∧∃x' y',r1 x=some (.inl x')∧r2 y=some (.inl y')∧R (k+1) x' y')) {x:X} {y:Y} (h:R 0 x y) :
  ∃e f,aI r1 x=some e∧aI r2 y=some f∧Q e f:=by
 have key:∀d k x y,k+d=n→R k x y→∃e f,aI r1 x=some e∧aI r2 y=some f∧Q e f:=by
  intro d
  induction d with
  |zero=>
   intro k x y hk hR;rcases GH k x y (by omega) hR with ⟨e,f,h1,h2,h3⟩ | ⟨dB,_⟩
   ·exact ⟨e,f,by rw [lP,h1],by rw [lP,h2],h3⟩
   ·omega
  |succ d ih=>
   intro k x y hk hR;rcases GH k x y (by omega) hR with ⟨e,f,h1,h2,h3⟩ | ⟨_,x',y',h1,h2,h3⟩
   ·exact ⟨e,f,by rw [lP,h1],by rw [lP,h2],h3⟩
   ·obtain ⟨e,f,g1,g2,g3⟩:=ih (k+1) x' y' (by omega) h3;exact ⟨e,f,by rw [lP,h1];exact g1,by rw [lP,h2];exact g2,g3⟩
 exact key n 0 x y (by omega) h
end Go.TM
namespace Go.TM
open Go Go.RowKit
def vI (P:Program):Nat→RT→List Field→Bool
 |_,.nil,[]=>true
 |off,.cons t r,f::fs=>Nat.beq f.offset off&&((f.name != "_")&&(P.plainKey f.type&&(OL P f.type t&&vI P (off+1) r fs)))
 |_,_,_=>false
def FL (P:Program) (t:TypeId) (r:RT):Bool:=
 match P.underlying t with
 |some (.struct fs) => !P.stoodInHeld t&&(!P.eqGuardType P.depth t&&vI P 0 r fs.toList)
 |_=>false
def ab4 (P:Program) (t:Nat) (r:Rec):Bool := !r.eq||(match r.row with | some q=>FL P t q | none=>false)
theorem QO {P:Program} {c:Cz} {st:St} {w w':World} {t:TypeId} {ty:Ty} {d:Nat} {a b:CV} {x y:Value} {r:Bool} {q:RT} {l:List CV} (hk:OL P t ty=true) (hf:vS (.cons ty q) (a::l)=true) (h:yN a b=some r) (hx:rj c st w a x) (hy:rj c st w b y) :
  (Op.equalIn (d+1) t x y).run P w'=.ok r w'∧vS q l=true:=by
 cases ty with
 |sl _=>cases a<;>simp [vS] at hf
 |int k=>
  obtain ⟨e,he,h2⟩:=iT hk
  cases a<;>try (simp [vS] at hf;done)
  rename_i k1 n;simp only [vS,Bool.and_eq_true,decide_eq_true_eq] at hf
  cases b<;>try (simp [yN] at h;done)
  rename_i k2 m;simp only [yN] at h
  split at h
  ·rename_i Z4;subst Z4
   cases h
   cases e<;>simp at h2
   have hx:x=.int k1 n:=hx;have hy:y=.int k1 m:=hy;subst hx hy;refine ⟨?_,hf.2⟩;rw [run_equalIn_int w' d t k1 _ n m he]
   congr 1
  ·cases h
 |bool=>
  obtain ⟨e,he,h2⟩:=iT hk
  cases a<;>try (simp [vS] at hf;done)
  cases b<;>try (simp [yN] at h;done)
  rename_i p q';simp only [yN,Option.some.injEq] at h;subst h
  cases e<;>simp at h2
  have hx:x=.bool p:=hx;have hy:y=.bool q':=hy;subst hx hy;exact ⟨run_equalIn_bool' w' d t p q' he,hf⟩
 |str=>
  obtain ⟨e,he,h2⟩:=iT hk
  cases a<;>try (simp [vS] at hf;done)
  cases b<;>try (simp [yN] at h;done)
  rename_i p q';simp only [yN,Option.some.injEq] at h;subst h
  cases e<;>simp at h2
  have hx:x=.string p:=hx;have hy:y=.string q':=hy;subst hx hy;exact ⟨run_equalIn_string w' d t p q' he,hf⟩
theorem EF {P:Program} {c:Cz} {st:St} {w w':World} {d:Nat} {us vs:Array Value}:(fs:List Field)→(off:Nat)→(q:RT)→(l m:List CV)→{b:Bool}→vI P off q fs=true→vS q l=true→re l m=some b→
  jf c st w l (us.toList.drop off)→jf c st w m (vs.toList.drop off)→(Op.eqFields (d+1) us vs fs).run P w'=.ok b w'
 | [],off,q,l,m,b,hf,qZ,hc,hl,hm=>by
  cases q with
  |cons t r=>cases t<;>simp [vI] at hf
  |nil=>
   cases l with
   |cons _ _=>simp [vS] at qZ
   |nil=>cases m with
    |cons _ _=>simp [re] at hc
    |nil=>
     simp only [re,Option.some.injEq] at hc;subst hc;simp [Op.eqFields]
 |f::fs,off,q,l,m,b,hf,qZ,hc,hl,hm=>by
  cases q with
  |nil=>simp [vI] at hf
  |cons t r=>
   unfold vI at hf;rw [Bool.and_eq_true,Bool.and_eq_true,Bool.and_eq_true,Bool.and_eq_true] at hf;obtain ⟨h1,h2,h3,h4,h5⟩:=hf;have h1:=Nat.eq_of_beq_eq_true h1
   cases l with
   |nil=>cases t<;>simp [vS] at qZ
   |cons x l=>cases m with
    |nil=>simp [re] at hc
    |cons y m=>
     simp only [re] at hc
     cases he:yN x y with
     |none=>simp [he] at hc
     |some b1=>
      cases hes:re l m with
      |none=>simp [he,hes] at hc
      |some b2=>
       simp only [he,hes,Option.some.injEq] at hc;subst hc;have TV:off<us.size:=by
        have:=hl.1;simp at this;omega
       have K2:off<vs.size:=by
        have:=hm.1;simp at this;omega
       have hdu:us.toList.drop off=us[off]::us.toList.drop (off+1):=by
        have:off<us.toList.length:=by simpa using TV
        rw [List.drop_eq_getElem_cons this];simp
       have hdv:vs.toList.drop off=vs[off]::vs.toList.drop (off+1):=by
        have:off<vs.toList.length:=by simpa using K2
        rw [List.drop_eq_getElem_cons this];simp
       rw [hdu] at hl;rw [hdv] at hm;have rx:=hl.2 0 x us[off] rfl rfl;have ry:=hm.2 0 y vs[off] rfl rfl;obtain ⟨k1,k2⟩:=QO (w':=w') (d:=d) h4 qZ he rx ry;have rl:jf c st w l (us.toList.drop (off+1)):=⟨by have:=hl.1;simpa using this,fun i a v ha hv=>hl.2 (i+1) a v (by simpa using ha) (by simpa using hv)⟩;have rm:jf c st w m (vs.toList.drop (off+1)):=⟨by have:=hm.1;simpa using this,fun i a v ha hv=>hm.2 (i+1) a v (by simpa using ha) (by simpa using hv)⟩;have ih:=EF (w':=w') (d:=d) fs (off+1) r l m h5 k2 hes rl rm;unfold Op.eqFields;rw [if_pos (by simpa using h2)];have p1:(part f.type us f.offset).run P w'=.ok us[off] w':=run_part_plain w' h3 (by rw [h1];exact Array.getElem?_eq_getElem TV);have p2:(part f.type vs f.offset).run P w'=.ok vs[off] w':=run_part_plain w' h3 (by rw [h1];exact Array.getElem?_eq_getElem K2);simp only [Sem.run_bind,p1,p2,k1,Result.andThen_ok]
       cases b1
       ·simp
       ·simp [ih]
theorem MP {P:Program} {tr:Tr} (h:tr.all (ab4 P)=true):yX P (mv tr):=by
 intro t ht c st w l m us vs b op ox oy qZ hc hl hm w';have ht:(match tr.find t with | some r=>r.eq | none=>false)=true:=ht
 cases hf:tr.find t with
 |none=>rw [hf] at ht;cases ht
 |some r=>
  rw [hf] at ht;have ht:r.eq=true:=ht;have h1:=Tr.ED tr h hf;unfold ab4 at h1;rw [ht,Bool.not_true,Bool.false_or] at h1;unfold pA.fits at qZ;have tU:(mv tr).row t=r.row:=by show (match tr.find t with | some r=>r.row | none=>none)=_;rw [hf]
  rw [tU] at qZ
  cases hq:r.row with
  |none=>rw [hq] at h1;cases h1
  |some q=>
   rw [hq] at h1 qZ;have h1:FL P t q=true:=h1;have qZ:vS q l=true:=qZ;unfold FL at h1
   split at h1
   ·rename_i fs hu;rw [Bool.and_eq_true,Bool.and_eq_true,Bool.not_eq_true',Bool.not_eq_true'] at h1;have hfo:P.fieldsOf t=fs:=by unfold Program.fieldsOf;rw [hu]
    refine ⟨run_eqGuard_agg w' op t ox oy us vs h1.2.1,?_⟩;show (Op.equalIn (9999+1) t (.agg us) (.agg vs)).run P w'=.ok b w';rw [run_equalIn_struct w' 9999 t us vs (by rw [hfo];exact hu) h1.1,hfo];exact EF (d:=9998) fs.toList 0 q l m h1.2.2 qZ hc (by simpa using hl) (by simpa using hm)
   ·cases h1
end Go.TM
namespace Go.TM
open Go Go.RowKit
def OR (n:Nat) (ps:List AP) (x:aO (aM (ps.map some))):St:=bW (start n ps x) (some 0) (.one .gJ)
def SM (n:Nat) (r:RT) (xs:List (aO r)) (ps:List AP) (x:aO (aM (ps.map some))):St:=bW (start n ps x) (some 0) (.one (.nn r xs))
theorem OS {P:Program} {tr:Tr} (hT:tr.all (yn P)=true) (hE:yX P (mv tr)) (hm:P.follows .mixedOrders=true) {S:nF} (hS:pL P S) {D:nO} {f:FuncId} {fn:Func} {code:Code} {n:Nat} {r:RT} {qs:List AP} {rs:List RP}
  {L:qN (aO (eE rs (cU (.val false [.shr r]::qs))))} {t:aO (aM ((AP.val false [.shr r]::qs).map some))→Option (aO (eE rs (cU (.val false [.shr r]::qs))))}
  (hf:P.funcs[f]?=some fn) (hb:fn.body=some code) (tV:fnB (mv tr) D fn code n (.val false [.shr r]::qs) rs=true) (ON:(fn.name == "runtime.NumGoroutine")=false)
  (hL:∀(w0:World) (mu:Mu) (y:aO (eE rs (cU (.val false [.shr r]::qs)))),qg (.val false [.shr r]::qs) mu→∀p∈fM code,qt P w0 mu n L y p.1 p.2)
  (Xt:∀z,ib (mv tr) S D L code (OR n (.val false [.shr r]::qs) (([]:List (aO r)),z)) (FE rs (.val false [.shr r]::qs))=t (([]:List (aO r)),z))
  (hnn:∀x,ib (mv tr) S D L code (SM n r x.1 (.val false [.shr r]::qs) x) (FE rs (.val false [.shr r]::qs))=t x):sm P f (ow (.val false [.shr r]::qs) rs t):=by
 unfold fnB at tV;rw [Bool.and_eq_true,Bool.and_eq_true,Bool.and_eq_true,Bool.and_eq_true] at tV;obtain ⟨h1,h2,h3,h4,h5⟩:=tV;refine ⟨OG (lj hT) hE hS hf hb (Nat.eq_of_beq_eq_true h1) (Nat.le_of_ble_eq_true h2) h3 (fun tm=>Cw tm _ _ h4) (fun w0 mu y hs=>u4 code (hL w0 mu y hs))
  (fun w0 mu=>vH (lj hT) hE hm (rn (lj hT) hE hS w0 mu n)) (xt code h5) (fun w0 mu c a w x hR hn => ?_),fn,hf,ON,by rw [hb];rfl⟩
 have adt:0<n:=by
  have:=Nat.le_of_ble_eq_true h2;simp at this;omega
 have yi:=hR.jy 0;have hg:dR (start n (.val false [.shr r]::qs) x) 0=.one (.shr r x.1):=rfl;rw [hg] at yi;have HL:eD w c.ok (.sl r) (a.eval (.tmp 0)) x.1:=yi;have h0:0<a.tmps.size:=by omega
 by_cases hv:a.eval (.tmp 0)=.slice none 0 0
 ·refine ⟨c,OR n (.val false [.shr r]::qs) x,?_,?_⟩
  ·have:=hR.bW (d:=some 0) (v:=.one .gJ) (u:=a.eval (.tmp 0)) hv (fun k e=>by cases e;exact h0)
   rwa [H4 a 0 _ h0 rfl] at this
  ·have hx:x.1=([]:List (aO r)):=by
    rcases (si _ _ _ _ _).1 HL with ⟨_,h⟩ | ⟨_,_,h,_⟩
    ·exact h
    ·rw [hv] at h;cases h
   obtain ⟨x1,z⟩:=x;simp only at hx;subst hx;exact Xt z
 ·refine ⟨c,SM n r x.1 (.val false [.shr r]::qs) x,?_,hnn x⟩;have:=hR.bW (d:=some 0) (v:=.one (.nn r x.1)) (u:=a.eval (.tmp 0)) ⟨HL,hv⟩ (fun k e=>by cases e;exact h0)
  rwa [H4 a 0 _ h0 rfl] at this
end Go.TM
namespace Go.TM
open Go Go.RowKit
section
variable {R:Type} (T:pA) (S:nF) (D:nO) (L:qN R)
noncomputable def IB:Nat→Code→St→(St→Option R)→(Ex→St→Option R)→Option R
 |0,_,st,g,_=>g st
 |n+1,.seq a b,st,g,k=>ib T S D L a st fun e bV=>match e with
  |.normal=>IB n b bV g k
  |e=>k e bV
 |_,_,_,_,_=>none
end
def AJ:Nat→Code→Code
 |0,c=>c
 |n+1,.seq _ b=>AJ n b
 |_,_=>.skip
theorem FM {n:Nat}:(m:Nat)→(c:Code)→iK n c=true→iK n (AJ m c)=true
 |0,_,h=>h
 |m+1,c,h=>by
  cases c with
  |seq a b=>
   unfold iK at h;rw [Bool.and_eq_true] at h;exact FM m b h.2
  |_=>rfl
theorem Bx {ok:Nat→Code→Prop}:(m:Nat)→(c:Code)→fY ok c→fY ok (AJ m c)
 |0,_,h=>h
 |m+1,c,h=>by
  cases c with
  |seq a b=>exact Bx m b h.2
  |_=>exact trivial
theorem Dm {ok:Nat→Array Oper→Prop}:(m:Nat)→(c:Code)→gC ok c→gC ok (AJ m c)
 |0,_,h=>h
 |m+1,c,h=>by
  cases c with
  |seq a b=>exact Dm m b h.2
  |_=>exact trivial
theorem IC {R:Type} {P:Program} {T:pA} {S:nF} {D:nO} {L:qN R} {w0:World} {mu:Mu} {n:Nat} {r:R} {ok:Nat→Array Oper→Prop} (Kk:xo P T S w0 mu n) (hD:vE R P T S D w0 mu n ok)
  {k:Ex→St→Option R} {Q:Exit→Act→World→Prop} (hk:Sx w0 mu n r k Q) {g:St→Option R}:(m:Nat)→(cd:Code)→iK n cd=true→fY (qt P w0 mu n L r) cd→gC ok cd→
  (∀ {c:Cz} {st:St} {a:Act} {w:World},Rel w0 mu c st a w→a.tmps.size=n→g st=some r→(AJ m cd).wp P Q a w)→
  {c:Cz}→{st:St}→{a:Act}→{w:World}→Rel w0 mu c st a w→a.tmps.size=n→IB T S D L m cd st g k=some r→cd.wp P Q a w
 |0,cd,_,_,_,hg,c,st,a,w,h,hn,hv=>hg h hn hv
 |m+1,cd,hd,hL,hw,hg,c,st,a,w,h,hn,hv=>by
  cases cd with
  |seq x y=>
   have hv:(ib T S D L x st fun e bV=>match e with
    |.normal=>IB T S D L m y bV g k
    |e=>k e bV)=some r:=hv
   unfold iK at hd;rw [Bool.and_eq_true] at hd;refine wp_seq (Ek Kk hD x hd.1 hL.1 hw.1 (fun {e} {c} {st} {a} {w} h1 h2 h3 => ?_) h hn hv)
   cases e with
   |normal=>exact IC Kk hD hk m y hd.2 hL.2 hw.2 hg h1 h2 h3
   |exit m=>exact hk h1 h2 h3
   |ret=>exact hk h1 h2 h3
  |_=>have hv:(none:Option R)=some r:=hv;cases hv
def akj {R:Type} (P:Program) (w0:World) (mu:Mu) (n:Nat) (k:Ex→St→Option R) (r:R) (b:Code) (hp:List (Option AP)) (g:aO (aM hp)→Option R):Prop:=
 ∀x,g x=some r→∀ {Q:Exit→Act→World→Prop},Sx w0 mu n r k Q→∀ {c:Cz} {a:Act} {w:World},Rel w0 mu c (qz hp x) a w→a.tmps.size=n→b.wp P Q a w
structure Xu (tr:Tr) (S:nF) (D:nO) (n:Nat) (ps:List AP) {R:Type} (L:qN R) (k:Ex→St→Option R) (P:Program) (b:Code) (hp:List (Option AP)) (g:aO (aM hp)→Option R):Prop where
 ok:∀(w0:World) (mu:Mu) (r:R),qg ps mu→iK n b=true→gC (fun id ops=>Ir ops (D id)=true) b→fY (qt P w0 mu n L r) b→akj P w0 mu n k r b hp g
theorem Xv {P:Program} {tr:Tr} (hT:tr.all (yn P)=true) (hE:yX P (mv tr)) (hm:P.follows .mixedOrders=true) {S:nF} (hS:pL P S) {D:nO} {n:Nat} {ps:List AP} {R:Type} {L:qN R} {k:Ex→St→Option R} {b:Code} {hp:List (Option AP)} {g:aO (aM hp)→Option R}
  (h:∀x,ib (mv tr) S D L b (qz hp x) k=g x):Xu tr S D n ps L k P b hp g:=
 ⟨fun w0 mu _ _ hd hw hL x hx _ hk _ _ _ hr hn=>Ek (rn (lj hT) hE hS w0 mu n) (vH (lj hT) hE hm (rn (lj hT) hE hS w0 mu n)) b hd hL hw hk hr hn ((h x).trans hx)⟩
theorem aaG {P:Program} {tr:Tr} (hT:tr.all (yn P)=true) (hE:yX P (mv tr)) (hm:P.follows .mixedOrders=true) {S:nF} (hS:pL P S) {D:nO} {n:Nat} {ps:List AP} {R:Type} {L:qN R} {k:Ex→St→Option R} {b b':Code} {hp mj:List (Option AP)} {g:aO (aM hp)→Option R} {g':aO (aM mj)→Option R} {m:Nat}
  (hb:AJ m b=b') (qZ:iL ps mj=true) (h:∀x,IB (mv tr) S D L m b (qz hp x) (fun st=>(Ez st mj).bind g') k=g x) (hs:Xu tr S D n ps L k P b' mj g'):Xu tr S D n ps L k P b hp g:=
 ⟨fun w0 mu r hsh hd hw hL x hx Q hk c a w hr hn=>IC (rn (lj hT) hE hS w0 mu n) (vH (lj hT) hE hm (rn (lj hT) hE hS w0 mu n)) hk m b hd hL hw (fun {c} {st} {a} {w} h1 h2 h3=>by
  obtain ⟨y,hy,h4⟩:=Option.bind_eq_some_iff.1 h3;obtain ⟨c',h5⟩:=FG h1 hsh qZ hy;rw [hb];exact hs.ok w0 mu r hsh (hb▸FM m b hd) (hb▸Dm m b hw) (hb▸Bx m b hL) y h4 hk h5 h2) hr hn ((h x).trans hx)⟩
theorem OT {P:Program} {tr:Tr} (hT:tr.all (yn P)=true) (hE:yX P (mv tr)) (hm:P.follows .mixedOrders=true) {S:nF} (hS:pL P S) {D:nO} {f:FuncId} {fn:Func} {code b':Code} {n m:Nat} {ps:List AP} {rs:List RP}
  {L:qN (aO (eE rs (cU ps)))} {t:aO (aM (ps.map some))→Option (aO (eE rs (cU ps)))} {mj:List (Option AP)} {g':aO (aM mj)→Option (aO (eE rs (cU ps)))}
  (hf:P.funcs[f]?=some fn) (hb:fn.body=some code) (tV:fnB (mv tr) D fn code n ps rs=true) (ON:(fn.name == "runtime.NumGoroutine")=false)
  (hL:∀(w0:World) (mu:Mu) (y:aO (eE rs (cU ps))),qg ps mu→∀p∈fM code,qt P w0 mu n L y p.1 p.2)
  (hr:AJ m code=b') (qZ:iL ps mj=true) (QI:∀x,IB (mv tr) S D L m code (start n ps x) (fun st=>(Ez st mj).bind g') (FE rs ps)=t x)
  (hs:Xu tr S D n ps L (FE rs ps) P b' mj g'):sm P f (ow ps rs t):=by
 unfold fnB at tV;rw [Bool.and_eq_true,Bool.and_eq_true,Bool.and_eq_true,Bool.and_eq_true] at tV;obtain ⟨h1,h2,h3,h4,h5⟩:=tV;refine ⟨fun c w mu lc gq args A y hH hA nG ho => ?_,fn,hf,ON,by rw [hb];rfl⟩;unfold ow at nG
 cases hx:iE ps gq with
 |none=>rw [hx] at nG;cases nG
 |some x=>
  rw [hx] at nG;simp only [Option.some.injEq] at nG;subst nG;have Hu:t x=some y:=ho;obtain ⟨Ht,c',hmm,je,Ip,SH,Io,Uc,hR⟩:=OF hH hA hx (Nat.le_of_ble_eq_true h2);refine calls_of_wp hf hb ?_;have hn:=Nat.eq_of_beq_eq_true h1;rw [hn];have qY:(args++Array.replicate (n-args.size) undef).size=n:=by
   have:args.size≤n:=by
    have h6:=Nat.le_of_ble_eq_true h2;have h7:=(Cu ps 0 gq args.toList hx hA).2.1;simp at h7;omega
   simp;omega
  have hlp:=u4 code (hL w Ht y Ip);have hdr:=xt code h5;refine IC (rn (lj hT) hE hS w Ht n) (vH (lj hT) hE hm (rn (lj hT) hE hS w Ht n)) (k:=FE rs ps) (r:=y) (fun {e} {c1} {HP} {a1} {w1} q1 q2 q3 => ?_) m code h3 hlp hdr (fun {c1} {HP} {a1} {w1} q1 q2 q3 => ?_) hR qY ((QI x).trans Hu)
  ·obtain ⟨he,v,vY,c2,Ie,hV,hX⟩:=QH (P:=P) (lj hT) hmm je q1 (Cw a1.tmps _ _ h4) Uc.symm (by rw [←Io];simp) SH q3;have Ih:a1.defers=[]∧∃v,(results fn a1.tmps).run P w1=.ok v w1∧(∃v',Ending.returned v=.returned v'∧∃c',Fx w mu c' w1∧wa c' w1 (jg rs (cU ps) y).1 v'∧kN c' w1 lc 0 gq args.toList (qy ps (jg rs (cU ps) y).2)):=
    ⟨q1.plain,v,vY,v,rfl,c2,Ie,hV,hX⟩
   rcases he with rfl | rfl<;>exact Ih
  ·obtain ⟨z,hz,q4⟩:=Option.bind_eq_some_iff.1 q3;obtain ⟨c2,q5⟩:=FG q1 Ip qZ hz;rw [hr];refine hs.ok w Ht y Ip (hr▸FM m code h3) (hr▸Dm m code hdr) (hr▸Bx m code hlp) z q4 (fun {e} {c1} {HP} {a1} {w1} q1 q2 q3 => ?_) q5 q2;obtain ⟨he,v,vY,c2,Ie,hV,hX⟩:=QH (P:=P) (lj hT) hmm je q1 (Cw a1.tmps _ _ h4) Uc.symm (by rw [←Io];simp) SH q3;have Ih:a1.defers=[]∧∃v,(results fn a1.tmps).run P w1=.ok v w1∧(∃v',Ending.returned v=.returned v'∧∃c',Fx w mu c' w1∧wa c' w1 (jg rs (cU ps) y).1 v'∧kN c' w1 lc 0 gq args.toList (qy ps (jg rs (cU ps) y).2)):=
    ⟨q1.plain,v,vY,v,rfl,c2,Ie,hV,hX⟩
   rcases he with rfl | rfl<;>exact Ih
end Go.TM
namespace Go.TM
open Go Go.RowKit
noncomputable section
structure TK (P:Program) where
 tr:Tr
 hT:tr.all (yn P)=true
 hE:yX P (mv tr)
 hm:P.follows .mixedOrders=true
structure KF (P:Program) where
 f:FuncId
 m:Pm×Pm×Pm
 Hc:AS
 ok:sm P f Hc
def KF.sl {P:Program} (k:KF P):Nat×(Pm×Pm×Pm×AS):=(k.f,(k.m.1,k.m.2.1,k.m.2.2,k.Hc))
def adu {P:Program}:List (KF P)→adr
 | []=>[]
 |k::l=>k.sl::adu l
theorem ID {P:Program}:(l:List (KF P))→pL P (Dk (adu l))
 | []=>Xq
 |k::l=>Ui k.ok (ID l)
def kw {P:Program} {f:FuncId} {s:AS} (h:sm P f s):KF P:=⟨f,(.shr,.shr,.shr),s,h⟩
def kv {P:Program} (m:Pm×Pm×Pm) {f:FuncId} {s:AS} (h:sm P f s):KF P:=⟨f,m,s,h⟩
structure LD where
 i:Nat
 b:Code
 hp:List (Option AP)
 e:List (Option AP)
 q:List (Option AP)
 r:aO (aM hp)→Option (Sum (aO (aM hp)) (Sum (aO (aM e)) (aO (aM q))))
def LD.Ok (l:LD) (P:Program) (n:Nat) (ps:List AP):Prop:=
 ∀ {R:Type} (L:qN R) (y:R) (w0:World) (mu:Mu),(∀st k,L l.i l.b st k=FI l.hp l.e l.q l.r st k)→qg ps mu→qt P w0 mu n L y l.i l.b
structure KLs (P:Program) (n:Nat) (ps:List AP) where
 d:LD
 ok:d.Ok P n ps
def pC {P:Program} {n:Nat} {ps:List AP} {R:Type}:List (KLs P n ps)→qN R
 | []=>noL
 |l::ls=>fun id b st k=>bif Nat.beq id l.d.i then FI l.d.hp l.d.e l.d.q l.d.r st k else pC ls id b st k
def IE {P:Program} {n:Nat} {ps:List AP}:List (KLs P n ps)→List (Nat×Code)
 | []=>[]
 |l::ls=>(l.d.i,l.d.b)::IE ls
def OU {P:Program} {n:Nat} {ps:List AP}:List (KLs P n ps)→Bool
 | []=>true
 |l::ls=>ls.all (fun m => !Nat.beq m.d.i l.d.i)&&OU ls
theorem Xw {P:Program} {n:Nat} {ps:List AP} {R:Type}:(ls:List (KLs P n ps))→OU ls=true→∀l∈ls,∀st (k:Ex→St→Option R),pC ls l.d.i l.d.b st k=FI l.d.hp l.d.e l.d.q l.d.r st k
 | [],_,l,h=>by cases h
 |m::ls,hb,l,h=>by
  intro st k;unfold OU at hb;rw [Bool.and_eq_true] at hb;rcases List.mem_cons.1 h with rfl | h
  ·show (bif Nat.beq l.d.i l.d.i then _ else _)=_;rw [Nat.beq_refl];rfl
  ·show (bif Nat.beq l.d.i m.d.i then _ else pC ls l.d.i l.d.b st k)=_;have:=List.all_eq_true.1 hb.1 l h;rw [Bool.not_eq_true'] at this;rw [this];exact Xw ls hb.2 l h st k
theorem SN {P:Program} {n:Nat} {ps:List AP}:(ls:List (KLs P n ps))→∀p∈IE ls,∃l∈ls,p=(l.d.i,l.d.b)
 | [],p,h=>by cases h
 |m::ls,p,h=>by
  rcases List.mem_cons.1 h with rfl | h
  ·exact ⟨m,List.mem_cons_self,rfl⟩
  ·obtain ⟨l,h1,h2⟩:=SN ls p h;exact ⟨l,List.mem_cons_of_mem _ h1,h2⟩
theorem MQ {P:Program} {n:Nat} {ps:List AP} {R:Type} {ls:List (KLs P n ps)} (hb:OU ls=true) {c:Code} (hc:fM c=IE ls) (y:R) (w0:World) (mu:Mu) (hs:qg ps mu):∀p∈fM c,qt P w0 mu n (pC ls) y p.1 p.2:=by
 rw [hc];intro p hp;obtain ⟨l,hl,rfl⟩:=SN ls p hp;exact l.ok (pC ls) y w0 mu (Xw ls hb l hl) hs
structure FC (P:Program) where
 t:TK P
 l:List (KF P)
 D:nO
 fn:Func
 ps:List AP
abbrev FC.code {P:Program} (F:FC P):Code:=Xp F.fn
abbrev FC.S {P:Program} (F:FC P):nF:=Dk (adu F.l)
abbrev FC.T {P:Program} (F:FC P):pA:=mv F.t.tr
abbrev FC.KL {P:Program} (F:FC P):Type:=KLs P F.fn.ntmps F.ps
abbrev FC.Ok {P:Program} (F:FC P) (l:LD):Prop:=l.Ok P F.fn.ntmps F.ps
abbrev FC.fin {P:Program} (F:FC P) (rs:List RP):Ex→St→Option (aO (eE rs (cU F.ps))):=FE rs F.ps
def FC.lp {P:Program} (F:FC P) (j:Nat):Code:=xr F.code j
theorem FC.kl {P:Program} (F:FC P) {l:LD} (ls:List F.KL) (h1:(Lr F.D F.ps l.hp l.e l.q F.fn.ntmps l.b&&OU ls)=true) (h2:fM l.b=IE ls)
  (ht:∀x,ib F.T F.S F.D (pC ls) l.b (qz l.hp x) (FH l.i l.hp l.e l.q)=l.r x):F.Ok l:=by
 rw [Bool.and_eq_true] at h1;exact fun _ _ w0 mu hL hs=>Uj F.t.hT F.t.hE F.t.hm (ID F.l) hs h1.1 (fun z=>MQ h1.2 h2 z w0 mu hs) ht hL
theorem FC.lH {P:Program} (F:FC P) {l:LD} (h:∀x,(Lr F.D F.ps l.hp l.e l.q F.fn.ntmps l.b&&(fM l.b).isEmpty,ib F.T F.S F.D noL l.b (qz l.hp x) (FH l.i l.hp l.e l.q))=(true,l.r x)):F.Ok l:=by
 have h1:=congrArg Prod.fst (h (xj _));have h1:(Lr F.D F.ps l.hp l.e l.q F.fn.ntmps l.b&&(fM l.b).isEmpty)=true:=h1;rw [Bool.and_eq_true] at h1;have ht:∀x,ib F.T F.S F.D noL l.b (qz l.hp x) (FH l.i l.hp l.e l.q)=l.r x:=fun x=>congrArg Prod.snd (h x)
 have g:F.Ok l:=F.kl [] (by rw [h1.1];rfl) (List.isEmpty_iff.1 h1.2) ht;exact @g
abbrev FC.ap7 {P:Program} (F:FC P) (rs:List RP) (t:Cur (aM (F.ps.map some)) (Option (aO (eE rs (cU F.ps))))):AS:=ow F.ps rs (oY (aM (F.ps.map some)) t)
abbrev FC.Kn {P:Program} (F:FC P) (rs:List RP) (f:FuncId) (t:Cur (aM (F.ps.map some)) (Option (aO (eE rs (cU F.ps))))):Prop:=sm P f (F.ap7 rs t)
def FC.chk {P:Program} (F:FC P) (rs:List RP):Bool:=F.fn.body.isSome&&(fnB F.T F.D F.fn F.code F.fn.ntmps F.ps rs && !(F.fn.name == "runtime.NumGoroutine"))
theorem FC.QP {P:Program} {F:FC P} {rs:List RP} (h:F.chk rs=true):F.fn.body=some F.code∧fnB F.T F.D F.fn F.code F.fn.ntmps F.ps rs=true∧(F.fn.name == "runtime.NumGoroutine")=false:=by
 unfold FC.chk at h;rw [Bool.and_eq_true,Bool.and_eq_true,Bool.not_eq_true'] at h;obtain ⟨h1,h2,h3⟩:=h;refine ⟨?_,h2,h3⟩;obtain ⟨c,hc⟩:=Option.isSome_iff_exists.1 h1;unfold FC.code Xp;rw [hc]
theorem FC.kf {P:Program} (F:FC P) {rs:List RP} {f:FuncId} {t:Cur (aM (F.ps.map some)) (Option (aO (eE rs (cU F.ps))))} (ls:List F.KL) (hf:P.funcs[f]?=some F.fn) (h1:(F.chk rs&&OU ls)=true) (h2:fM F.code=IE ls)
  (ht:∀x,ib F.T F.S F.D (pC ls) F.code (start F.fn.ntmps F.ps x) (F.fin rs)=oY (aM (F.ps.map some)) t x):F.Kn rs f t:=by
 rw [Bool.and_eq_true] at h1;obtain ⟨hb,hc,hn⟩:=F.QP h1.1;exact aaE F.t.hT F.t.hE F.t.hm (ID F.l) (D:=F.D) (L:=pC ls) hf hb hc hn (fun w0 mu y hs=>MQ h1.2 h2 y w0 mu hs) ht
theorem FC.mD {P:Program} (F:FC P) {rs:List RP} {f:FuncId} {t:Cur (aM (F.ps.map some)) (Option (aO (eE rs (cU F.ps))))} (hf:P.funcs[f]?=some F.fn)
  (h:∀x,(F.chk rs&&(fM F.code).isEmpty,ib F.T F.S F.D noL F.code (start F.fn.ntmps F.ps x) (F.fin rs))=(true,oY (aM (F.ps.map some)) t x)):F.Kn rs f t:=by
 have h1:=congrArg Prod.fst (h (xj _));have h1:(F.chk rs&&(fM F.code).isEmpty)=true:=h1;rw [Bool.and_eq_true] at h1;exact F.kf [] hf (by rw [h1.1];rfl) (List.isEmpty_iff.1 h1.2) fun x=>congrArg Prod.snd (h x)
theorem FC.Z5 {P:Program} (F:FC P) {rs:List RP} {f:FuncId} {t:Cur (aM (F.ps.map some)) (Option (aO (eE rs (cU F.ps))))} (hf:P.funcs[f]?=some F.fn) (h1:(F.chk rs&&(fM F.code).isEmpty)=true)
  (ht:∀x,ib F.T F.S F.D noL F.code (start F.fn.ntmps F.ps x) (F.fin rs)=oY (aM (F.ps.map some)) t x):F.Kn rs f t:=by
 rw [Bool.and_eq_true] at h1;exact F.kf [] hf (by rw [h1.1];rfl) (List.isEmpty_iff.1 h1.2) ht
theorem FC.kl1 {P:Program} (F:FC P) {l:LD} (h1:(Lr F.D F.ps l.hp l.e l.q F.fn.ntmps l.b&&(fM l.b).isEmpty)=true)
  (ht:∀x,ib F.T F.S F.D noL l.b (qz l.hp x) (FH l.i l.hp l.e l.q)=l.r x):F.Ok l:=by
 rw [Bool.and_eq_true] at h1;have g:F.Ok l:=F.kl [] (by rw [h1.1];rfl) (List.isEmpty_iff.1 h1.2) ht;exact @g
theorem FC.kfn {P:Program} (F:FC P) {rs:List RP} {f:FuncId} {t:Cur (aM (F.ps.map some)) (Option (aO (eE rs (cU F.ps))))} (ls:List F.KL) (hf:P.funcs[f]?=some F.fn) (r:RT) (qs:List AP) (hq:F.ps=.val false [.shr r]::qs) (h1:(F.chk rs&&OU ls)=true) (h2:fM F.code=IE ls)
  (h4:∀x,ib F.T F.S F.D (pC ls) F.code (bW (start F.fn.ntmps F.ps (hq▸(([]:List (aO r)),x))) (some 0) (.one .gJ)) (F.fin rs)=oY (aM (F.ps.map some)) t (hq▸(([]:List (aO r)),x)))
  (h5:∀x,ib F.T F.S F.D (pC ls) F.code (bW (start F.fn.ntmps F.ps (hq▸x)) (some 0) (.one (.nn r x.1))) (F.fin rs)=oY (aM (F.ps.map some)) t (hq▸x)):F.Kn rs f t:=by
 rw [Bool.and_eq_true] at h1;obtain ⟨hb,hc,hn⟩:=F.QP h1.1;obtain ⟨tt,l,D,fn,ps⟩:=F;simp only at hq;subst hq;exact OS tt.hT tt.hE tt.hm (ID l) (D:=D) (L:=pC ls) hf hb hc hn (fun w0 mu y hs=>MQ h1.2 h2 y w0 mu hs) h4 h5
theorem FC.akk {P:Program} (F:FC P) (ls:List F.KL) {R:Type} {k:Ex→St→Option R} {b:Code} {hp:List (Option AP)} {g:aO (aM hp)→Option R} (h:∀x,ib F.T F.S F.D (pC ls) b (qz hp x) k=g x):Xu F.t.tr F.S F.D F.fn.ntmps F.ps (pC ls) k P b hp g:=
 Xv F.t.hT F.t.hE F.t.hm (ID F.l) h
theorem FC.ab6 {P:Program} (F:FC P) (ls:List F.KL) {R:Type} {k:Ex→St→Option R} {b b':Code} {hp mj:List (Option AP)} {g:aO (aM hp)→Option R} {g':aO (aM mj)→Option R} (m:Nat) (hs:Xu F.t.tr F.S F.D F.fn.ntmps F.ps (pC ls) k P b' mj g')
  (hb:AJ m b=b') (qZ:iL F.ps mj=true) (h:∀x,IB F.T F.S F.D (pC ls) m b (qz hp x) (fun st=>(Ez st mj).bind g') k=g x):Xu F.t.tr F.S F.D F.fn.ntmps F.ps (pC ls) k P b hp g:=
 aaG F.t.hT F.t.hE F.t.hm (ID F.l) hb qZ h hs
theorem FC.ap9 {P:Program} (F:FC P) (ls:List F.KL) {rs:List RP} {f:FuncId} {t:Cur (aM (F.ps.map some)) (Option (aO (eE rs (cU F.ps))))} (hf:P.funcs[f]?=some F.fn) (m:Nat) {b':Code} {mj:List (Option AP)} {g':aO (aM mj)→Option (aO (eE rs (cU F.ps)))} (hs:Xu F.t.tr F.S F.D F.fn.ntmps F.ps (pC ls) (F.fin rs) P b' mj g')
  (h1:(F.chk rs&&(OU ls&&iL F.ps mj))=true) (h2:fM F.code=IE ls) (hr:AJ m F.code=b') (ht:∀x,IB F.T F.S F.D (pC ls) m F.code (start F.fn.ntmps F.ps x) (fun st=>(Ez st mj).bind g') (F.fin rs)=oY (aM (F.ps.map some)) t x):F.Kn rs f t:=by
 rw [Bool.and_eq_true,Bool.and_eq_true] at h1;obtain ⟨hb,hc,hn⟩:=F.QP h1.1;exact OT F.t.hT F.t.hE F.t.hm (ID F.l) (D:=F.D) (L:=pC ls) hf hb hc hn (fun w0 mu y hs=>MQ h1.2.1 h2 y w0 mu hs) hr h1.2.2 ht hs
def sp:List (Nat×AP)→Nat→List (Option AP)
 | [],k=>nn k
 |(g,p)::l,k=>nn g++some p::sp l k
abbrev vl (l:List OP):AP:=.val false l
abbrev va (l:List OP):AP:=.val true l
abbrev Pl.a (i:Nat) (p:Pl):Pl:=.op i .any p
abbrev Pl.t (i:Nat) (p:Pl):Pl:=.op i .take p
abbrev Pl.o (i:Nat) (p:Pl):Pl:=.op i .one p
abbrev Pl.l (i:Nat) (p:Pl):Pl:=.op i .last p
def dr (i:Nat) (p:Pl) (D:nO:=iw):nO:=fun id=>bif Nat.beq id i then p else D id
end
end Go.TM
namespace Go.TM
open Go Go.RowKit
noncomputable section
end
end Go.TM
